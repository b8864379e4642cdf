/- Texts by which the law's calls are walked (part 9): rules, printed conditions, contracts; no condition. -/
import Derived.TacticsIn
import Derived.TacticsInMore
import Derived.Deep.LoopGhost
import Derived.Sort.QuietThIn
import Derived.RangeFuncCalls
import Derived.RangeFuncNested
import Derived.RangeFuncLeaves
import Derived.WalkKit
import Derived.StillTail
import Derived.Test.YtealcoghiaeiiaaGreatProg
import Derived.KernelRfl
import Derived.Deep.WholeRow
import Derived.Laws.StructEq
import Derived.MapFrom
import Derived.Laws.CopyRow
import Derived.Maps.RangeRun
import Derived.Sort.Walk0
import Derived.RangeFuncBound
import Derived.Test.YtealcoghiaeiiaaGreatPkTxnCallsH
open Go.Proofs.Tryz renaming prog → zA
open Go.IntKind renaming wrap → zC
open Go.Value renaming pointer → zB, int → zU, string → za, bool → yq
open Go.Instr renaming loadAt → zD, storeAt → zI, indexAt → zF, fieldAt → zL, alloc → ze, build → yS, buildSlice → zr
open Nat renaming le_refl → zV, le_trans → zk, lt_of_lt_of_le → QV
open List renaming length_append → yQ
set_option linter.unusedVariables false
set_option linter.unusedSimpArgs false
namespace Go.Proofs.YtealcoghiaeiiaaGreat.VG
open Go.VB Go.Proofs Go.RowKit
theorem zG5 {s:St} {n:Int} {f:Tx->St × Ans} (h:s.tx n=none):onTx s n f=(s,errA 11):=by unfold onTx;rw [h]
theorem zBv {s:St} {n:Int} {f:Tx->St × Ans} {t:Tx} (h:s.tx n=some t):onTx s n f=f t:=by unfold onTx;rw [h]
theorem Ext.new {ρ ρ':Own} {w W w':World} {B:Nat} (h:Ext ρ w ρ' W) (hg:W.grownBy w' (some B)) (hB:w.heap.size<=B):Ext ρ w ρ' w':=
 ⟨h.out.trans (T:=λk=>k=B) (Out.row hg λk hk=>by cases hk;exact .inl rfl) λi hi e=>by omega,h.same⟩
theorem Mgr.other {ρ:Own} {w w':World} {b:Nat} {s:St} {B:Nat} (h:Mgr ρ w b s) (hg:w.grownBy w' (some B)) (hB:ρ B=none):Mgr ρ w' b s:=
 let ⟨vs,mb,g,m⟩:=h
 ⟨vs,mb,g,m.keep hg.size λk hk=>hg.block k (m.lt k hk) λe=>by cases e;exact hk hB⟩
section
variable {ρ:Own} {w:World} {b:Nat} {s:St}
theorem zNI (h:Mgr ρ w b s) (hI:Inv s) (hg:s.given<4611686018427387904) {k:Int->Int->World->Prop} (H:∀ ρ' w',Mgr ρ' w' b (zBx s).1->Ext ρ w ρ' w'->k (zBx s).2.tx (zBx s).2.why w'):
  Cl zA zF1 [.pointer (ptrA b)].toArray w (λe w'=>∃ (r0 r1:Int),e=.returned (.tuple [.int .i64 r0,.int .i64 r1].toArray)/\k r0 r1 w'):=by
 refine zKN h hI.giv hg hI.free (λks hd hl=>?_) λks ρ' w' hd hl hM hE=>?_
 ·have e:zBx s=(s,errA 3):=by unfold zBx;rw [zJN hd,if_pos hl]
  rw [e] at H;exact H ρ w h (Ext.refl _ _)
 ·have e:zBx s=(zGT s,{ans0 with tx:=s.given+1}):=by unfold zBx;rw [zJN hd,if_neg (by omega)]
  rw [e] at H;exact H ρ' w' hM hE
theorem zQB (h:Mgr ρ w b s) (n:Int) (key:ByteArray) {k:ByteArray->Bool->Int->World->Prop} (H:∀ ρ' w',Mgr ρ' w' b (getD s n key).1->Ext ρ w ρ' w'->k (getD s n key).2.val (getD s n key).2.is (getD s n key).2.why w'):
  Cl zA zGL [.pointer (ptrA b),.int .i64 n,.string key].toArray w (λe w'=>∃ (r0:ByteArray) (r1:Bool) (r2:Int),e=.returned (.tuple [.string r0,.bool r1,.int .i64 r2].toArray)/\k r0 r1 r2 w'):=by
 unfold getD at H
 refine zM3 h n key (λht=>?_) (λt ht h1=>?_) (λt ht h1 h2=>?_) λt ρ' w' ht h1 h2 hM hE=>?_
 ·rw [zG5 ht] at H;exact H ρ w h (Ext.refl _ _)
 ·rw [zBv ht] at H;unfold getT at H;rw [if_pos h1] at H;exact H ρ w h (Ext.refl _ _)
 ·rw [zBv ht] at H;unfold getT at H;rw [if_neg h1,if_pos h2] at H;exact H ρ w h (Ext.refl _ _)
 ·rw [zBv ht] at H;unfold getT at H;rw [if_neg h1,if_neg (by omega)] at H;exact H ρ' w' hM hE
theorem zPN (h:Mgr ρ w b s) (hI:Inv s) (n:Int) (fr to:ByteArray) {k:Sl->Int->World->Prop}
  (H:∀ r ρ' w',Mgr ρ' w' b (zFz s n fr to).1->Ext ρ w ρ' w'->Z1 w.heap.size w' r (zFz s n fr to).2.pairs->(∀ q,(Sl.v r).ownBlock=some q->ρ' q=none)->k r (zFz s n fr to).2.why w'):
  Cl zA zGB [.pointer (ptrA b),.int .i64 n,.string fr,.string to].toArray w (λe w'=>∃ (r0:Sl) (r1:Int),e=.returned (.tuple [Sl.v r0,.int .i64 r1].toArray)/\k r0 r1 w'):=by
 unfold zFz at H
 refine zPo h hI n fr to (λht w' hb=>?_) (λt ht h1 w' hb=>?_) λt r ys ρ' w' ht h1 hS hO hρ hM hE=>?_
 ·rw [zG5 ht] at H;exact H Sl.none ρ w' (h.bel hb) (Ext.bel hb) (OwnS.nil _ _ _ _ _) λq e=>by cases e
 ·rw [zBv ht] at H;unfold zMP at H;rw [if_pos h1] at H;exact H Sl.none ρ w' (h.bel hb) (Ext.bel hb) (OwnS.nil _ _ _ _ _) λq e=>by cases e
 ·rw [zBv ht] at H;unfold zMP at H;rw [if_neg (by omega),zM2 hS] at H;exact H r ρ' w' hM hE hO hρ
theorem zNP (h:Mgr ρ w b s) (n:Int) (x:Wri) {k:Int->World->Prop} (H:∀ ρ' w',Mgr ρ' w' b (zBb s n x).1->Ext ρ w ρ' w'->k (zBb s n x).2.why w'):
  Cl zA zCK [.pointer (ptrA b),.int .i64 n,zJ.v x].toArray w (λe w'=>∃ r0:Int,e=.returned (.int .i64 r0)/\k r0 w'):=by
 unfold zBb at H
 refine zKK h n x (λht w' hb=>?_) (λt ht h1 w' hb=>?_) (λt ks ht h1 h2 hd h3 w' hb=>?_) λt w' ht h1 h2 hM hE=>?_
 ·rw [zG5 ht] at H;exact H ρ w' (h.bel hb) (Ext.bel hb)
 ·rw [zBv ht] at H;unfold zJX at H;rw [if_pos h1] at H;exact H ρ w' (h.bel hb) (Ext.bel hb)
 ·rw [zBv ht] at H;unfold zJX at H;rw [if_neg h1,if_pos ⟨h2,by rw [zJN hd];exact h3⟩] at H;exact H ρ w' (h.bel hb) (Ext.bel hb)
 ·rw [zBv ht] at H;unfold zJX at H
  rw [if_neg h1,if_neg λh3=>by obtain ⟨ks,hd,hl⟩:=h2 h3.1;have:=h3.2;rw [zJN hd] at this;omega] at H
  exact H ρ w' hM hE
theorem zP8 (h:Mgr ρ w b s) (n:Int) (key val:ByteArray) {k:Int->World->Prop} (H:∀ ρ' w',Mgr ρ' w' b (zBb s n ⟨key,val,false⟩).1->Ext ρ w ρ' w'->k (zBb s n ⟨key,val,false⟩).2.why w'):
  Cl zA zGV [.pointer (ptrA b),.int .i64 n,.string key,.string val].toArray w (λe w'=>∃ r0:Int,e=.returned (.int .i64 r0)/\k r0 w'):=zMo n key val (zNP h n _ H)
theorem zMI (h:Mgr ρ w b s) (n:Int) (key:ByteArray) {k:Int->World->Prop} (H:∀ ρ' w',Mgr ρ' w' b (zBb s n ⟨key,noB,true⟩).1->Ext ρ w ρ' w'->k (zBb s n ⟨key,noB,true⟩).2.why w'):
  Cl zA zFa [.pointer (ptrA b),.int .i64 n,.string key].toArray w (λe w'=>∃ r0:Int,e=.returned (.int .i64 r0)/\k r0 w'):=zNs n key (zNP h n _ H)
theorem zNh (h:Mgr ρ w b s) (n:Int) {k:Int->World->Prop} (H:∀ ρ' w',Mgr ρ' w' b (zFi s n).1->Ext ρ w ρ' w'->k (zFi s n).2.why w'):
  Cl zA zFw [.pointer (ptrA b),.int .i64 n].toArray w (λe w'=>∃ r0:Int,e=.returned (.int .i64 r0)/\k r0 w'):=by
 unfold zFi at H
 refine zOg h n (λht=>?_) λt ρ' w' ht hM hE=>?_
 ·rw [zG5 ht] at H;exact H ρ w h (Ext.refl _ _)
 ·rw [zBv ht] at H;exact H ρ' w' hM hE
theorem zL6 (h:Mgr ρ w b s) (hI:Inv s) (hn:s.now<4611686018427387904) (n:Int) {k:Sl->Int->Int->World->Prop}
  (H:∀ r ρ' w',Mgr ρ' w' b (zA6 s n).1->Ext ρ w ρ' w'->zBn w.heap.size w' r (zA6 s n).2.done->(∀ q,(Sl.v r).ownBlock=some q->ρ' q=none)->k r (zA6 s n).2.time (zA6 s n).2.why w'):
  Cl zA zFZ [.pointer (ptrA b),.int .i64 n].toArray w (λe w'=>∃ (r0:Sl) (r1:Int) (r2:Int),e=.returned (.tuple [Sl.v r0,.int .u64 r1,.int .i64 r2].toArray)/\k r0 r1 r2 w'):=by
 unfold zA6 at H
 have h0:=hI.lo;have h1:=hI.lonow
 have nob:∀ {w':World},zBn w.heap.size w' Sl.none []:=OwnS.nil _ _ _ _ _
 have nor:∀ {ρ':Own} q,(Sl.v Sl.none).ownBlock=some q->ρ' q=none:=λq e=>by cases e
 refine zJI h n (λt ht=>⟨(hI.txok n t ht).few,(hI.txok n t ht).keyed⟩) (by omega) hn (λht=>?_) (λt ρ' w' ht hc hM hE=>?_) (λt ρ' w' ht hc he hM hE=>?_) (λt ys ρ' w' ht hc hS he hp hM hE=>?_) λt ys r ρ' w' ht hc hS he hp hM hE hr hq=>?_
 ·rw [zG5 ht] at H;exact H Sl.none ρ w h (Ext.refl _ _) nob nor
 ·rw [zBv ht] at H;unfold zHH at H;rw [if_pos hc] at H;exact H Sl.none ρ' w' hM hE nob nor
 ·rw [zBv ht] at H;unfold zHH at H;rw [if_neg (by simp [hc]),if_pos he] at H;exact H Sl.none ρ' w' hM hE nob nor
 ·rw [zBv ht] at H;unfold zHH at H
  rw [if_neg (by simp [hc]),if_neg (λh=>by obtain ⟨x,hx⟩:=he;exact hx (h x)),zJW hS,if_pos hp] at H
  exact H Sl.none ρ' w' hM hE nob nor
 ·rw [zBv ht] at H;unfold zHH at H
  rw [if_neg (by simp [hc]),if_neg (λh=>by obtain ⟨x,hx⟩:=he;exact hx (h x)),zJW hS,if_neg (by simp [hp])] at H
  exact H r ρ' w' hM hE hr λq h=>(hq q h).2.2
end
structure zHt (base:Nat) (ρ:Own) (w:World) (y:zb) (a:Ans):Prop where
 why:y.Why=a.why
 tx:y.Tx=a.tx
 val:y.Val=a.val
 is:y.Is=a.is
 pairs:Z1 base w y.Pairs a.pairs
 done:zBn base w y.Done a.done
 time:y.Time=a.time
 rp:∀ q,(Sl.v y.Pairs).ownBlock=some q->ρ q=none
 rd:∀ q,(Sl.v y.Done).ownBlock=some q->ρ q=none
theorem zHt.ans {base:Nat} {ρ:Own} {w:World} {y:zb} {a:Ans} (h:zHt base ρ w y a):zHq w y a:=⟨h.why,h.tx,h.val,h.is,Z1.rd h.pairs,zBn.rd h.done,h.time⟩
abbrev zAns:zb:=⟨15,0,noB,false,Sl.none,Sl.none,0⟩
structure Mid (ρ:Own) (w:World) (b A C:Nat) (s':St) (p:Sl) (ps:List Pai) (d:Sl) (ds:List Wri) (ρ':Own) (W:World) (cs:List Value):Prop where
 mgr:Mgr ρ' W b s'
 ext:Ext ρ w ρ' W
 rA:ρ' A=none
 rC:ρ' C=none
 a:∃ z:List Value,z.length=7/\Row W A z zAc
 c:Row W C cs zAc
 pr:Z1 w.heap.size W p ps
 dn:zBn w.heap.size W d ds
 rp:∀ q,(Sl.v p).ownBlock=some q->ρ' q=none
 rd:∀ q,(Sl.v d).ownBlock=some q->ρ' q=none
theorem Mid.st {ρ:Own} {w:World} {b A C:Nat} {s':St} {p:Sl} {ps:List Pai} {d:Sl} {ds:List Wri} {ρ':Own} {W:World} {cs:List Value} (h:Mid ρ w b A C s' p ps d ds ρ' W cs) {t:Nat} (hA:One zA t) {off:Nat} {v:Value}
  (hv:v.cells.toList=[v]) (hl:off<cs.length) (h1:v.oneCell'=true) (hC:w.heap.size<=C) (hAC:A≠C) {k:World->Prop} (H:∀ W',Mid ρ w b A C s' p ps d ds ρ' W' (cs.take off++[v]++cs.drop (off+1))->k W'):
  opU zA (zI t (.pointer (some ((⟨C,0,none⟩:Addr).add off))) v) W k:=by
 refine zIB hA h.c hv hl h1 λW' hR hg=>H W' ?_
 obtain ⟨z,hz,ha⟩:=h.a
 exact {h with
  mgr:=h.mgr.other hg h.rC
  ext:=h.ext.new hg hC
  a:=⟨z,hz,ha.grown hg (by simpa using hAC.symm)⟩
  c:=hR
  pr:=h.pr.kept hg (.inr (OwnS.ne_row h.pr h.c (by decide)))
  dn:=h.dn.kept hg (.inr (OwnS.ne_row h.dn h.c (by decide)))}
theorem zMZ (s:St):(zBx s).2={ans0 with tx:=(zBx s).2.tx,why:=(zBx s).2.why}:=by unfold zBx;split<;>rfl
theorem zO0 (s:St) (n:Int) (key:ByteArray):(getD s n key).2={ans0 with val:=(getD s n key).2.val,is:=(getD s n key).2.is,why:=(getD s n key).2.why}:=by
 unfold getD onTx
 cases s.tx n with
 |none=>rfl
 |some t=>simp only;unfold getT;split<;>(try split)<;>rfl
theorem zNd (s:St) (n:Int) (fr to:ByteArray):(zFz s n fr to).2={ans0 with pairs:=(zFz s n fr to).2.pairs,why:=(zFz s n fr to).2.why}:=by
 unfold zFz onTx
 cases s.tx n with
 |none=>rfl
 |some t=>simp only;unfold zMP;split<;>rfl
theorem zI2 (s:St) (n:Int) (x:Wri):(zBb s n x).2={ans0 with why:=(zBb s n x).2.why}:=by
 unfold zBb onTx
 cases s.tx n with
 |none=>rfl
 |some t=>simp only;unfold zJX;split<;>(try split)<;>rfl
theorem zKn (s:St) (n:Int):(zA6 s n).2={ans0 with done:=(zA6 s n).2.done,time:=(zA6 s n).2.time,why:=(zA6 s n).2.why}:=by
 unfold zA6 onTx
 cases s.tx n with
 |none=>rfl
 |some t=>simp only;unfold zHH;split<;>(try split)<;>(try split)<;>rfl
theorem zMF (s:St) (n:Int):(zFi s n).2={ans0 with why:=(zFi s n).2.why}:=by
 unfold zFi onTx
 cases s.tx n<;>rfl
theorem zRn {ρ:Own} {w:World} {b:Nat} {s:St} (h:Mgr ρ w b s) (hI:Inv s) (hn:s.now<4611686018427387904) (hg:s.given<4611686018427387904) (x:z6) {k:zb->World->Prop}
  (H:∀ y ρ' w',Mgr ρ' w' b (doS s x).1->Ext ρ w ρ' w'->zHt w.heap.size ρ' w' y (doS s x).2->k y w'):
  Cl zA zJF [.pointer (ptrA b),z6.v x].toArray w (λe w'=>∃ r0:zb,e=.returned (zb.v r0)/\k r0 w'):=by
 refine zJH (ptrA b) x w k ?_
 unfold zFl
 refine zAF (cs:=x.cells) rfl λX w1 b1 hX hX0=>?_
 refine zCr zCk λA w2 b2 hA hA0=>?_
 refine ⟨zAns,w2,by kernel_rfl,?_⟩
 refine zCX zCk rfl Zz (cs:=zAns.cells) rfl rfl rfl λC w3 b3 hC hC0=>?_
 have b13:=b2.trans b3
 have b03:=b1.trans b13
 replace hX:=hX.bel b13
 have hA2:=hA.lt
 replace hA:=hA.bel b3
 have s1:=b1.le;have s2:=b2.le
 have hlt:=h.lt
 have hnone:∀ q,w.heap.size<=q->ρ q=none:=λq hq=>by
  cases hρ:ρ q with
  |none=>rfl
  |some r=>have:=hlt q (by rw [hρ];simp);omega
 have h3:=h.bel b03
 have hXl:=hX.lt;have hAl:=hA.lt;have hCl:=hC.lt
 have hAC:A≠C:=by omega
 refine zJE _ ⟨λh=>(nomatch h),λ_=>?_⟩
 have J1:∀ W (y:zb) ρ',Ext ρ w ρ' W->ρ' A=none->Mgr ρ' W b (doS s x).1->(∃ z:List Value,z.length=7/\Row W A z zAc)->Row W C y.cells zAc->zHt w.heap.size ρ' W y (doS s x).2->xE k (ptrA A) (ptrA C) W:=by
  rintro W y ρ' g hρA hM ⟨z,hz,hAW⟩ hCW hy
  unfold xE
  refine zBY Zz y rfl hCW.at rfl ?_
  have hone:y.cells.all (·.oneCell')=true:=by
   obtain ⟨a1,a2,a3,a4,⟨a5,a51,a52⟩,⟨a6,a61,a62⟩,a7⟩:=y
   cases a5<;>cases a6<;>rfl
  refine zHU Zz hAW hz rfl hone λw5 hA5 g5=>?_
  refine R.agg Zz y rfl hA5.at rfl (H y ρ' w5 (hM.other g5 hρA) (g.new g5 (by omega)) ?_)
  have hp:(Sl.v y.Pairs).ownBlock≠some A:=OwnS.ne_row hy.pairs hAW (by decide)
  have hd:(Sl.v y.Done).ownBlock≠some A:=OwnS.ne_row hy.done hAW (by decide)
  exact {hy with pairs:=hy.pairs.kept g5 (.inr hp),done:=hy.done.kept g5 (.inr hd)}
 have mid:∀ {ρ' W s' p ps d ds},Mgr ρ' W b s'->Ext ρ w3 ρ' W->Z1 w3.heap.size W p ps->zBn w3.heap.size W d ds->(∀ q,(Sl.v p).ownBlock=some q->ρ' q=none)->(∀ q,(Sl.v d).ownBlock=some q->ρ' q=none)->Mid ρ w b A C s' p ps d ds ρ' W zAns.cells:=by
  intro ρ' W s' p ps d ds hM g hp hd hrp hrd
  have s03:=b03.le
  exact {
   mgr:=hM
   ext:=(Ext.bel b03).trans g
   rA:=(g.same A hAl).trans (hnone A (by omega))
   rC:=(g.same C hCl).trans (hnone C (by omega))
   a:=⟨_,rfl,hA.keep (g.blk hAl (hnone A (by omega)))⟩
   c:=hC.keep (g.blk hCl (hnone C (by omega)))
   pr:=hp.low s03
   dn:=hd.low s03
   rp:=hrp
   rd:=hrd}
 have nop:∀ {W},Z1 w3.heap.size W Sl.none []:=OwnS.nil _ _ _ _ _
 have nod:∀ {W},zBn w3.heap.size W Sl.none []:=OwnS.nil _ _ _ _ _
 have nor:∀ {ρ':Own} q,(Sl.v Sl.none).ownBlock=some q->ρ' q=none:=λq e=>by cases e
 have hwC:w.heap.size<=C:=by omega
 have fin:∀ {ρ' W s' p ps d ds} {y:zb} {a:Ans},doS s x=(s',a)->Mid ρ w b A C s' p ps d ds ρ' W y.cells->y.Why=a.why->y.Tx=a.tx->y.Val=a.val->y.Is=a.is->y.Pairs=p->a.pairs=ps->y.Done=d->a.done=ds->y.Time=a.time->xE k (ptrA A) (ptrA C) W:=by
  intro ρ' W s' p ps d ds y a he M e1 e2 e3 e4 e5 e6 e7 e8 e9
  refine J1 W y ρ' M.ext M.rA (by rw [he];exact M.mgr) M.a M.c ?_
  rw [he]
  subst e5;subst e6;subst e7;subst e8
  exact ⟨e1,e2,e3,e4,M.pr,M.dn,e9,M.rp,M.rd⟩
 have slv:∀ z:Sl,(Sl.v z).cells.toList=[Sl.v z]/\(Sl.v z).oneCell'=true:=λz=>by cases z with|mk a l c=>cases a<;>exact ⟨rfl,rfl⟩
 refine z8 ZW zBc hX.at x.Kind rfl ⟨λhk=>?_,λk1=>?_⟩
 ·have he:doS s x=zBx s:=by unfold doS;rw [if_pos hk]
  refine zNI h3 hI hg λρ' W hM g=>?_
  have M:=mid hM g nop nod nor nor
  refine ⟨_,W,zCb _ _,?_⟩
  refine M.st ZH rfl (by show _<7;decide) rfl hwC hAC λW1 M=>?_
  refine ⟨_,W1,yM _ _,?_⟩
  refine M.st (off:=0) YT rfl (by show _<7;decide) rfl hwC hAC λW2 M=>?_
  exact fin (y:=⟨(zBx s).2.why,(zBx s).2.tx,noB,false,Sl.none,Sl.none,0⟩) (a:={ans0 with tx:=(zBx s).2.tx,why:=(zBx s).2.why}) (by rw [he,← zMZ]) M rfl rfl rfl rfl rfl rfl rfl rfl rfl
 refine z8 ZW zBc hX.at x.Kind rfl ⟨λhk=>?_,λk2=>?_⟩
 ·have he:doS s x=getD s x.Tx x.Key:=by unfold doS;rw [if_neg k1,if_pos hk]
  refine z8 YZ ZH hX.at x.Tx rfl ?_
  refine z8 Zq zm hX.at x.Key rfl ?_
  refine zQB h3 x.Tx x.Key λρ' W hM g=>?_
  have M:=mid hM g nop nod nor nor
  refine ⟨_,W,zCL _ _,?_⟩
  refine M.st zm rfl (by show _<7;decide) rfl hwC hAC λW1 M=>?_
  refine ⟨_,W1,zCa _ _,?_⟩
  refine M.st zCe rfl (by show _<7;decide) rfl hwC hAC λW2 M=>?_
  refine ⟨_,W2,yM _ _,?_⟩
  refine M.st (off:=0) YT rfl (by show _<7;decide) rfl hwC hAC λW3 M=>?_
  exact fin (y:=⟨(getD s x.Tx x.Key).2.why,0,(getD s x.Tx x.Key).2.val,(getD s x.Tx x.Key).2.is,Sl.none,Sl.none,0⟩) (a:={ans0 with val:=(getD s x.Tx x.Key).2.val,is:=(getD s x.Tx x.Key).2.is,why:=(getD s x.Tx x.Key).2.why}) (by rw [he,← zO0]) M rfl rfl rfl rfl rfl rfl rfl rfl rfl
 refine z8 ZW zBc hX.at x.Kind rfl ⟨λhk=>?_,λk3=>?_⟩
 ·have he:doS s x=zFz s x.Tx x.Key x.To:=by unfold doS;rw [if_neg k1,if_neg k2,if_pos hk]
  refine z8 YZ ZH hX.at x.Tx rfl ?_
  refine z8 Zq zm hX.at x.Key rfl ?_
  refine z8 zGg zm hX.at x.To rfl ?_
  refine zPN h3 hI x.Tx x.Key x.To λr ρ' W hM g hO hρ=>?_
  have M:=mid hM g hO nod hρ nor
  refine ⟨_,W,Z9 _ _,?_⟩
  refine M.st zAw (slv r).1 (by show _<7;decide) (slv r).2 hwC hAC λW1 M=>?_
  refine ⟨_,W1,yM _ _,?_⟩
  refine M.st (off:=0) YT rfl (by show _<7;decide) rfl hwC hAC λW2 M=>?_
  exact fin (y:=⟨(zFz s x.Tx x.Key x.To).2.why,0,noB,false,r,Sl.none,0⟩) (a:={ans0 with pairs:=(zFz s x.Tx x.Key x.To).2.pairs,why:=(zFz s x.Tx x.Key x.To).2.why}) (by rw [he,← zNd]) M rfl rfl rfl rfl rfl rfl rfl rfl rfl
 refine z8 ZW zBc hX.at x.Kind rfl ⟨λhk=>?_,λk4=>?_⟩
 ·have he:doS s x=zBb s x.Tx ⟨x.Key,x.Val,false⟩:=by unfold doS;rw [if_neg k1,if_neg k2,if_neg k3,if_pos hk]
  refine z8 YZ ZH hX.at x.Tx rfl ?_
  refine z8 Zq zm hX.at x.Key rfl ?_
  refine z8 zGQ zm hX.at x.Val rfl ?_
  refine zP8 h3 x.Tx x.Key x.Val λρ' W hM g=>?_
  have M:=mid hM g nop nod nor nor
  refine ⟨_,W,yM _ _,?_⟩
  refine M.st (off:=0) YT rfl (by show _<7;decide) rfl hwC hAC λW2 M=>?_
  exact fin (y:=⟨(zBb s x.Tx ⟨x.Key,x.Val,false⟩).2.why,0,noB,false,Sl.none,Sl.none,0⟩) (a:={ans0 with why:=(zBb s x.Tx ⟨x.Key,x.Val,false⟩).2.why}) (by rw [he,← zI2]) M rfl rfl rfl rfl rfl rfl rfl rfl rfl
 refine z8 ZW zBc hX.at x.Kind rfl ⟨λhk=>?_,λk5=>?_⟩
 ·have he:doS s x=zBb s x.Tx ⟨x.Key,noB,true⟩:=by unfold doS;rw [if_neg k1,if_neg k2,if_neg k3,if_neg k4,if_pos hk]
  refine z8 YZ ZH hX.at x.Tx rfl ?_
  refine z8 Zq zm hX.at x.Key rfl ?_
  refine zMI h3 x.Tx x.Key λρ' W hM g=>?_
  have M:=mid hM g nop nod nor nor
  refine ⟨_,W,yM _ _,?_⟩
  refine M.st (off:=0) YT rfl (by show _<7;decide) rfl hwC hAC λW2 M=>?_
  exact fin (y:=⟨(zBb s x.Tx ⟨x.Key,noB,true⟩).2.why,0,noB,false,Sl.none,Sl.none,0⟩) (a:={ans0 with why:=(zBb s x.Tx ⟨x.Key,noB,true⟩).2.why}) (by rw [he,← zI2]) M rfl rfl rfl rfl rfl rfl rfl rfl rfl
 refine z8 ZW zBc hX.at x.Kind rfl ⟨λhk=>?_,λk6=>?_⟩
 ·have he:doS s x=zA6 s x.Tx:=by unfold doS;rw [if_neg k1,if_neg k2,if_neg k3,if_neg k4,if_neg k5,if_pos hk]
  refine z8 YZ ZH hX.at x.Tx rfl ?_
  refine zL6 h3 hI hn x.Tx λr ρ' W hM g hO hρ=>?_
  have M:=mid hM g nop hO nor hρ
  refine ⟨_,W,zAL _ _,?_⟩
  refine M.st zAZ (slv r).1 (by show _<7;decide) (slv r).2 hwC hAC λW1 M=>?_
  refine ⟨_,W1,zB3 _ _,?_⟩
  refine M.st yA rfl (by show _<7;decide) rfl hwC hAC λW2 M=>?_
  refine ⟨_,W2,yM _ _,?_⟩
  refine M.st (off:=0) YT rfl (by show _<7;decide) rfl hwC hAC λW3 M=>?_
  exact fin (y:=⟨(zA6 s x.Tx).2.why,0,noB,false,Sl.none,r,(zA6 s x.Tx).2.time⟩) (a:={ans0 with done:=(zA6 s x.Tx).2.done,time:=(zA6 s x.Tx).2.time,why:=(zA6 s x.Tx).2.why}) (by rw [he,← zKn]) M rfl rfl rfl rfl rfl rfl rfl rfl rfl
 refine z8 ZW zBc hX.at x.Kind rfl ⟨λhk=>?_,λk7=>?_⟩
 ·have he:doS s x=zFi s x.Tx:=by unfold doS;rw [if_neg k1,if_neg k2,if_neg k3,if_neg k4,if_neg k5,if_neg k6,if_pos hk]
  refine z8 YZ ZH hX.at x.Tx rfl ?_
  refine zNh h3 x.Tx λρ' W hM g=>?_
  have M:=mid hM g nop nod nor nor
  refine ⟨_,W,yM _ _,?_⟩
  refine M.st (off:=0) YT rfl (by show _<7;decide) rfl hwC hAC λW2 M=>?_
  exact fin (y:=⟨(zFi s x.Tx).2.why,0,noB,false,Sl.none,Sl.none,0⟩) (a:={ans0 with why:=(zFi s x.Tx).2.why}) (by rw [he,← zMF]) M rfl rfl rfl rfl rfl rfl rfl rfl rfl
 ·have he:doS s x=(s,errA 15):=by unfold doS;rw [if_neg k1,if_neg k2,if_neg k3,if_neg k4,if_neg k5,if_neg k6,if_neg k7]
  exact fin (y:=zAns) he (mid h3 (Ext.refl _ _) nop nod nor nor) rfl rfl rfl rfl rfl rfl rfl rfl rfl
end Go.Proofs.YtealcoghiaeiiaaGreat.VG
set_option linter.unusedVariables false
set_option linter.unusedSimpArgs false
namespace Go.Proofs.YtealcoghiaeiiaaGreat.VG
open Go.VB Go.Proofs Go.RowKit
theorem zKw {l:List Pai} (h:zGK l l.length):∀ d i x y,l[i]?=some x->l[i+d+1]?=some y->sLt x.Key y.Key=true
 |0,i,x,y,hx,hy=>h i x y (List.getElem?_eq_some_iff.1 hy).1 hx hy
 |d+1,i,x,y,hx,hy=>by
  obtain ⟨z,hz⟩:=getE (l:=l) (n:=i+d+1) (by have:=(List.getElem?_eq_some_iff.1 hy).1;omega)
  exact zH1 (zKw h d i x z hx hz) (h (i+d+1) z y (by have:=(List.getElem?_eq_some_iff.1 hy).1;omega) hz (by rw [show i+d+1+1=i+(d+1)+1 by omega];exact hy))
theorem zLj {l:List Pai} (h:zGK l l.length):Rise (λp:Pai=>p.Key) l:=by
 rw [Rise,List.pairwise_iff_getElem]
 intro i j hi hj hij
 refine zKw h (j - i - 1) i _ _ (List.getElem?_eq_getElem hi) ?_
 rw [show i+(j - i - 1)+1=j by omega];exact List.getElem?_eq_getElem hj
theorem zO4 {l:List Pai} (h1:l.length<=4096) (h2:l.any zHQ=false) (h3:zGK l l.length):Inv (newS l) where
 good:=by
  refine zJy (by show (l.map verP).length<=4096;rw [List.length_map];exact h1) (by show (1:Int)<=_;decide) (λx hx=>?_) ?_
  ·obtain ⟨p,hp,rfl⟩:=List.mem_map.1 hx
   have hl:zHQ p=false:=by
    cases hpl:zHQ p with
    |false=>rfl
    |true=>rw [List.any_eq_true.2 ⟨p,hp,hpl⟩] at h2;cases h2
   unfold zHQ at hl
   simp only [Bool.or_eq_false_iff,decide_eq_false_iff_not] at hl
   exact ⟨by show (1:Int)<=1;decide,by show (1:Int)<=_;decide,λh=>(nomatch h),by show p.Key.size<=256;omega,by show p.Val.size<=512;omega⟩
  ·show (l.map verP).Pairwise vlt
   rw [List.pairwise_map]
   exact (zLj h3).imp λ{a b} h=>.inl h
 lo:=Int.le_refl 1
 lonow:=Int.le_refl 1
 past x hx:=by
  obtain ⟨p,hp,rfl⟩:=List.mem_map.1 hx
  exact Int.le_refl _
 giv:=Int.le_refl 0
 dom:=⟨[],⟨List.nodup_nil,λk=>by simp [newS]⟩,by simp⟩
 num n t ht:=(nomatch ht)
 tim n t ht:=(nomatch ht)
 txok n t ht:=(nomatch ht)
theorem zPB {l:List Pai} (h3:zGK l l.length):zGI (λk=>val (newS l).l k 1) l:=by
 have hs:(l.map verP).Pairwise vlt:=by rw [List.pairwise_map];exact (zLj h3).imp λ{a b} h=>.inl h
 refine ⟨zLj h3,λp=>?_⟩
 show p∈l↔val (l.map verP) p.Key 1=some p.Val
 constructor
 ·intro hp
  have:sees (l.map verP) p.Key 1=some (verP p):=zKF hs (List.mem_map.2 ⟨p,hp,rfl⟩) rfl (Int.le_refl _) λy hy _ h=>h
  unfold val;rw [this];rfl
 ·intro h
  unfold val at h
  cases hse:sees (l.map verP) p.Key 1 with
  |none=>rw [hse] at h;cases h
  |some x=>
   rw [hse] at h
   obtain ⟨g1,g2,_⟩:=zIu hse
   obtain ⟨q,hq,rfl⟩:=List.mem_map.1 g1
   have e1:q.Val=p.Val:=Option.some.inj h
   have e2:q.Key=p.Key:=g2
   obtain ⟨a,c⟩:=p;obtain ⟨a',c'⟩:=q
   simp at e1 e2;subst e1;subst e2;exact hq
abbrev zRi (w:World) (s:Sl) (l:List z6):Prop:=Rd z6.cells 5 w s l
end Go.Proofs.YtealcoghiaeiiaaGreat.VG
set_option linter.unusedVariables false
set_option linter.unusedSimpArgs false
namespace Go.Proofs.YtealcoghiaeiiaaGreat.VG
open Go.VB Go.Proofs Go.RowKit
open Classical in
noncomputable def newE (l:List Pai):Int:=if 4096<l.length then 3 else if l.any zHQ=true then 4 else if ¬ zGK l l.length then 2 else 0
theorem zO5 {w:World} {x:Sl} {l:List Pai} (hd:zJb w x l) {k:Option Addr->Int->World->Prop} (H0:∀ w',newE l≠0->Bel w w'->k none (newE l) w')
  (H1:∀ b ρ w',newE l=0->Inv (newS l)->zGI (λk=>val (newS l).l k 1) l->Bel w w'->Mgr ρ w' b (newS l)->(∀ k,k<w.heap.size->ρ k=none)->k (ptrA b) 0 w'):
  Cl zA zKM [Sl.v x].toArray w (λe w'=>∃ (r0:Option Addr) (r1:Int),e=.returned (.tuple [.pointer r0,.int .i64 r1].toArray)/\k r0 r1 w'):=by
 refine zOq hd (λh=>?_) (λh1 h2 w' hb=>?_) (λh1 h2 h3 w' hb=>?_) λh1 h2 h3 b ρ w' hb hM hρ=>?_
 ·have e:newE l=3:=by unfold newE;rw [if_pos h]
  rw [e] at H0;exact H0 w (by decide) (Bel.refl _)
 ·have e:newE l=4:=by unfold newE;rw [if_neg (by omega),if_pos h2]
  rw [e] at H0;exact H0 w' (by decide) hb
 ·have e:newE l=2:=by unfold newE;rw [if_neg (by omega),if_neg (by simp [h2]),if_pos h3]
  rw [e] at H0;exact H0 w' (by decide) hb
 ·have e:newE l=0:=by unfold newE;rw [if_neg (by omega),if_neg (by simp [h2]),if_neg (by simp [h3])]
  exact H1 b ρ w' e (zO4 h1 h2 h3) (zPB h3) hb hM hρ
structure Two (w:World) (ba bb:Nat) (sa sb:St) (ρa ρb:Own) (W:World):Prop where
 ma:Mgr ρa W ba sa
 mb:Mgr ρb W bb sb
 dis:∀ k,ρa k≠none->ρb k=none
 bel:Bel w W
 la:∀ k,k<w.heap.size->ρa k=none
 lb:∀ k,k<w.heap.size->ρb k=none
section
variable {w W W':World} {ba bb:Nat} {sa sb s':St} {ρa ρb ρ':Own}
theorem Two.swap (h:Two w ba bb sa sb ρa ρb W):Two w bb ba sb sa ρb ρa W:=⟨h.mb,h.ma,λk hk=>Classical.byContradiction λh1=>hk (h.dis k h1),h.bel,h.lb,h.la⟩
theorem Two.a (h:Two w ba bb sa sb ρa ρb W) (hM:Mgr ρ' W' ba s') (hE:Ext ρa W ρ' W'):Two w ba bb s' sb ρ' ρb W' where
 ma:=hM
 mb:=h.mb.out hE.out λk hk=>h.dis k hk
 dis k hk:=by
  by_cases hk1:k<W.heap.size
  ·exact h.dis k (by rw [← hE.same k hk1];exact hk)
  ·cases hb:ρb k with
   |none=>rfl
   |some r=>have:=h.mb.lt k (by rw [hb];simp);omega
 bel:=hE.base h.bel h.la
 la:=hE.clear h.bel.le h.la
 lb:=h.lb
theorem Two.b (h:Two w ba bb sa sb ρa ρb W) (hM:Mgr ρ' W' bb s') (hE:Ext ρb W ρ' W'):Two w ba bb sa s' ρa ρ' W':=(h.swap.a hM hE).swap
theorem Two.more (h:Two w ba bb sa sb ρa ρb W) (hb:Bel W W'):Two w ba bb sa sb ρa ρb W':=⟨h.ma.bel hb,h.mb.bel hb,h.dis,h.bel.trans hb,h.la,h.lb⟩
theorem Two.new (h:Two w ba bb sa sb ρa ρb W) {k:Nat} (hk:W.heap.size<=k):ρa k=none/\ρb k=none:=by
 constructor
 ·cases hb:ρa k with
  |none=>rfl
  |some r=>have:=h.ma.lt k (by rw [hb];simp);omega
 ·cases hb:ρb k with
  |none=>rfl
  |some r=>have:=h.mb.lt k (by rw [hb];simp);omega
end
theorem zHq.keep {w w':World} {x:zb} {a:Ans} (h:zHq w x a) (hp:∀ q,(Sl.v x.Pairs).ownBlock=some q->w'.heap[q]?=w.heap[q]?) (hd:∀ q,(Sl.v x.Done).ownBlock=some q->w'.heap[q]?=w.heap[q]?):zHq w' x a:=
 ⟨h.1,h.2.1,h.2.2.1,h.2.2.2.1,h.2.2.2.2.1.keep hp,h.2.2.2.2.2.1.keep hd,h.2.2.2.2.2.2⟩
theorem zHt.ext {base:Nat} {ρ ρb ρ':Own} {W W':World} {y:zb} {a:Ans} (h:zHt base ρ W y a) (hE:Ext ρb W ρ' W') (hn:∀ k,base<=k->ρb k=none):zHq W' y a:=
 h.ans.keep (λq hq=>hE.blk (h.pairs.lt hq) (hn q (h.pairs.lo hq))) (λq hq=>hE.blk (h.done.lt hq) (hn q (h.done.lo hq)))
theorem zPq (y:zb):y.cells.all (·.oneCell')=true:=by
 obtain ⟨a1,a2,a3,a4,⟨a5,a51,a52⟩,⟨a6,a61,a62⟩,a7⟩:=y
 cases a5<;>cases a6<;>rfl
end Go.Proofs.YtealcoghiaeiiaaGreat.VG
set_option linter.unusedVariables false
set_option linter.unusedSimpArgs false
namespace Go.Proofs.YtealcoghiaeiiaaGreat.VG
open Go.VB Go.Proofs
def zBK (Ret:Bool->World->Prop) (x41:Bool) (w:World):Prop:=
 Ret x41 w
def zA8 (x44:Int) (Kl3:Int->World->Prop) (x14:Option Addr) (x84:Sl) (x86:Int) (w:World) (Kl7:Int->World->Prop):Prop:=
 ((x86<(x84.len:Int))->(opE zA zB (zL 69 (.pointer x14) 0) w (λx89 w=>opE zA Sl.v (zD 67 (.pointer x89)) w (λx90 w=>opE zA zG.v (yS 72 [].toArray) w (λx92 w=>opE zA zB (zF 67 (Sl.v x90) (.int .i64 x86)) w (λx93 w=>opU zA (zI 72 (.pointer x93) (zG.v x92)) w (λw=>Kl7 (zC .i64 (x86+1)) w)))))))/\(¬ (x86<(x84.len:Int))->(Kl3 (zC .i64 (x44+1)) w))
def zAy (r_1:Option Addr) (x44:Int) (Kl3:Int->World->Prop) (x11:Option Addr) (x70:Sl) (x72:Int) (w:World) (Kl6:Int->World->Prop):Prop:=
 ((x72<(x70.len:Int))->(opE zA zB (zL 51 (.pointer x11) 5) w (λx75 w=>opE zA Sl.v (zD 30 (.pointer x75)) w (λx76 w=>opE zA zJ.v (yS 34 [].toArray) w (λx78 w=>opE zA zB (zF 30 (Sl.v x76) (.int .i64 x72)) w (λx79 w=>opU zA (zI 34 (.pointer x79) (zJ.v x78)) w (λw=>Kl6 (zC .i64 (x72+1)) w)))))))/\(¬ (x72<(x70.len:Int))->(Cl zA 25 [(.pointer r_1)].toArray w (λe w=>∃ (r_8:zO),e=.returned (zO.v r_8)/\(opE zA zB (ze 69 true (.tuple #[])) w (λx14 w=>opU zA (zI 69 (.pointer x14) (zO.v r_8)) w (λw=>opE zA zB (zL 69 (.pointer x14) 0) w (λx83 w=>opE zA Sl.v (zD 67 (.pointer x83)) w (λx84 w=>∃ (I:Int->World->Prop) (μ:Int->World->Nat),I 0 w/\∀ (x86:Int) w,I x86 w->zA8 x44 Kl3 x14 x84 x86 w (λx86' w'=>I x86' w'/\μ x86' w'<μ x86 w)))))))))
def zAr (r_1:Option Addr) (x44:Int) (Kl3:Int->World->Prop) (x11:Option Addr) (x58:Sl) (x60:Int) (w:World) (Kl5:Int->World->Prop):Prop:=
 ((x60<(x58.len:Int))->(opE zA zB (zL 51 (.pointer x11) 4) w (λx63 w=>opE zA Sl.v (zD 22 (.pointer x63)) w (λx64 w=>opE zA zN.v (yS 66 [].toArray) w (λx66 w=>opE zA zB (zF 22 (Sl.v x64) (.int .i64 x60)) w (λx67 w=>opU zA (zI 66 (.pointer x67) (zN.v x66)) w (λw=>Kl5 (zC .i64 (x60+1)) w)))))))/\(¬ (x60<(x58.len:Int))->(opE zA zB (zL 51 (.pointer x11) 5) w (λx69 w=>opE zA Sl.v (zD 30 (.pointer x69)) w (λx70 w=>∃ (I:Int->World->Prop) (μ:Int->World->Nat),I 0 w/\∀ (x72:Int) w,I x72 w->zAy r_1 x44 Kl3 x11 x70 x72 w (λx72' w'=>I x72' w'/\μ x72' w'<μ x72 w)))))
def zBC (x1:Sl) (Ret:Bool->World->Prop) (r_1:Option Addr) (r_3:Option Addr) (x44:Int) (w:World) (Kl3:Int->World->Prop):Prop:=
 ((x44<(x1.len:Int))->(opE zA zB (zF 45 (Sl.v x1) (.int .i64 x44)) w (λx46 w=>opE zA z6.v (zD 49 (.pointer x46)) w (λx47 w=>opE zA zB (ze 49 true (.tuple #[])) w (λx10 w=>opU zA (zI 49 (.pointer x10) (z6.v x47)) w (λw=>opE zA z6.v (zD 49 (.pointer x10)) w (λx49 w=>Cl zA 23 [(.pointer r_1),(z6.v x49)].toArray w (λe w=>∃ (r_5:zb),e=.returned (zb.v r_5)/\(opE zA zB (ze 51 true (.tuple #[])) w (λx11 w=>opU zA (zI 51 (.pointer x11) (zb.v r_5)) w (λw=>regC w (λC4 w=>opC C4 zA zb.v (zD 51 (.pointer x11)) (λx51=>opC C4 zA z6.v (zD 49 (.pointer x10)) (λx53=>Cl zA 19 [(.pointer r_3),(z6.v x53)].toArray w (λe w=>∃ (r_6:zb),e=.returned (zb.v r_6)/\(C4 w/\(Cl zA 24 [(zb.v x51),(zb.v r_6)].toArray w (λe w=>∃ (r_7:Bool),e=.returned (.bool r_7)/\(C4 w/\(((!r_7)=true->(Ret false w))/\((!r_7)=false->(opE zA zB (zL 51 (.pointer x11) 4) w (λx57 w=>opE zA Sl.v (zD 22 (.pointer x57)) w (λx58 w=>∃ (I:Int->World->Prop) (μ:Int->World->Nat),I 0 w/\∀ (x60:Int) w,I x60 w->zAr r_1 x44 Kl3 x11 x58 x60 w (λx60' w'=>I x60' w'/\μ x60' w'<μ x60 w)))))))))))))))))))))))))/\(¬ (x44<(x1.len:Int))->(Cl zA 25 [(.pointer r_1)].toArray w (λe w=>∃ (r_9:zO),e=.returned (zO.v r_9)/\(Cl zA 25 [(.pointer r_3)].toArray w (λe w=>∃ (r_10:zO),e=.returned (zO.v r_10)/\(Cl zA 26 [(zO.v r_9),(zO.v r_10)].toArray w (λe w=>∃ (r_11:Bool),e=.returned (.bool r_11)/\(Ret r_11 w))))))))
def ZF (x1:Sl) (Ret:Bool->World->Prop) (r_1:Option Addr) (r_2:Int) (r_3:Option Addr) (r_4:Int) (x33:Bool) (w:World):Prop:=
 (x33=true->(opE zA yq (do eqGuard .eql 26 (.tmp 34) (.tmp 35) (.pointer r_1) (.pointer r_3);binOp .eql 26 (.pointer r_1) (.pointer r_3)) w (λx36 w=>(x36=true->(zBK Ret (decide (r_2=r_4)) w))/\(x36=false->(zBK Ret false w)))))/\(x33=false->(∃ (I:Int->World->Prop) (μ:Int->World->Nat),I 0 w/\∀ (x44:Int) w,I x44 w->zBC x1 Ret r_1 r_3 x44 w (λx44' w'=>I x44' w'/\μ x44' w'<μ x44 w)))
def zCq (x0:Sl) (x1:Sl) (w:World) (Ret:Bool->World->Prop):Prop:=
 Cl zA 10 [].toArray w (λe w=>∃ (r:Bool),e=.returned (.bool r)/\(((!r)=true->(Ret false w))/\((!r)=false->(Cl zA 11 [(Sl.v x0)].toArray w (λe w=>∃ (r_1:Option Addr) (r_2:Int),e=.returned (.tuple [(.pointer r_1),(.int .i64 r_2)].toArray)/\(Cl zA 11 [(Sl.v x0)].toArray w (λe w=>∃ (r_3:Option Addr) (r_4:Int),e=.returned (.tuple [(.pointer r_3),(.int .i64 r_4)].toArray)/\(opE zA yq (do eqGuard .eql 26 (.tmp 28) (.const (.pointer none)) (.pointer r_1) (.pointer none);binOp .eql 26 (.pointer r_1) (.pointer none)) w (λx29 w=>(x29=true->(ZF x1 Ret r_1 r_2 r_3 r_4 true w))/\(x29=false->(opE zA yq (do eqGuard .eql 26 (.tmp 31) (.const (.pointer none)) (.pointer r_3) (.pointer none);binOp .eql 26 (.pointer r_3) (.pointer none)) w (λx32 w=>ZF x1 Ret r_1 r_2 r_3 r_4 x32 w))))))))))))
set_option maxRecDepth 100000 in
theorem zG1 (x0:Sl) (x1:Sl) (w:World) (Ret:Bool->World->Prop) (H:zCq x0 x1 w Ret):Cl zA 7 [(Sl.v x0),(Sl.v x1)].toArray w (λe w'=>∃ (r0:Bool),e=.returned (.bool r0)/\Ret r0 w'):=by
 unfold zCq at H
 refine zj 101 (zipE 0 [(Sl.v x0),(Sl.v x1)]) Tryz.func7 rfl rfl (by rfl) rfl ?_
 intro a g
 replace g:Sat [] 101 [(0,(Sl.v x0)),(1,(Sl.v x1))] a:=g
 refine zK (zE (g.as_ rfl λ_ g=>zM (tn (zK (zK (zE (g.call (zY g zRd rfl rfl) H λe w H=>?_)))))))
 obtain ⟨r,rfl,H⟩:=H
 refine ⟨_,rfl,λ_ g=>(g.pur (zAW g rfl) λ_ g=>zM (tn (zg g rfl (λhc=>?_) (λhc=>?_))))⟩
 ·replace H:=H.1 hc
  exact zK (zE (g.as_ rfl λ_ g=>zM (tn (zf (tr (zx g rfl rfl ⟨_,rfl,H⟩))))))
 ·replace H:=H.2 hc
  refine zX (tn (zK (zE (g.mv rfl λ_ g=>g.call (zY g zOm rfl rfl) H λe w H=>?_))))
  obtain ⟨r_1,r_2,rfl,H⟩:=H
  refine ⟨_,rfl,λ_ g=>(g.mv rfl λ_ g=>g.pur (zZ g rfl rfl) λ_ g=>g.pur (zZ g rfl rfl) λ_ g=>g.as_ rfl λ_ g=>g.as_ rfl λ_ g=>zM (tn (zK (zE (g.mv rfl λ_ g=>g.call (zY g zOm rfl rfl) H λe w H=>?_)))))⟩
  obtain ⟨r_3,r_4,rfl,H⟩:=H
  refine ⟨_,rfl,λ_ g=>(g.mv rfl λ_ g=>g.pur (zZ g rfl rfl) λ_ g=>g.pur (zZ g rfl rfl) λ_ g=>g.as_ rfl λ_ g=>g.as_ rfl λ_ g=>zM (tn (zK (zK (zE (g.mv rfl λ_ g=>g.op (zB6 g rfl rfl) H λx29 w a H g=>g.mv rfl λ_ g=>WL.join (ds:=[]) (N:=101) (σ:=Bool) (λs=>[(33,(.bool s)),(1,(Sl.v x1)),(5,(.pointer r_1)),(6,(.int .i64 r_2)),(7,(.pointer r_3)),(8,(.int .i64 r_4))]) (λs w=>ZF x1 Ret r_1 r_2 r_3 r_4 s w) 3 ?_ (λhr1=>?_)))))))⟩
  ·intro x33 w a H g
   try dsimp only at H g
   unfold ZF at H
   refine zM (tn (zg g rfl (λhc=>?_) (λhc=>?_)))
   ·replace H:=H.1 hc
    refine zK (zE (g.mv rfl λ_ g=>g.mv rfl λ_ g=>g.op (zB6 g rfl rfl) H λx36 w a H g=>g.mv rfl λ_ g=>WL.join (ds:=[]) (N:=101) (σ:=Bool) (λs=>[(41,(.bool s))]) (λs w=>zBK Ret s w) 4 ?_ (λhr2=>?_)))
    ·intro x41 w a H g
     try dsimp only at H g
     unfold zBK at H
     exact g.as_ rfl λ_ g=>zM (tn (zf (tr (zx g rfl rfl ⟨_,rfl,H⟩))))
    ·rcases Bool.eq_false_or_eq_true (x36) with hbr2|hbr2
     ·replace H:=H.1 hbr2
      replace g:=g.bool (b:=true) (t:=37) rfl (hbr2)
      exact g.on (by rfl) (by rfl) (g.mv rfl λ_ g=>g.on (by rfl) (by rfl) (g.mv rfl λ_ g=>g.on (by rfl) (by rfl) (g.pur (ZE g rfl rfl) λ_ g=>g.pur (zw g rfl rfl) λ_ g=>hr2 (decide (r_2=r_4)) _ _ H (g.wk))))
     ·replace H:=H.2 hbr2
      replace g:=g.bool (b:=false) (t:=37) rfl (hbr2)
      exact g.off (by rfl) (by rfl) (by decide) (λ_ g=>g.off (by rfl) (by rfl) (by decide) (λ_ g=>g.off (by rfl) (by rfl) (by decide) (λ_ g=>g.pur (zv g rfl rfl) λ_ g=>hr2 false _ _ H (g.wk))))
   ·replace H:=H.2 hc
    refine zX (tn (zK (zK (zE (g.mv rfl λ_ g=>g.purR (λw=>ZZ g Tryz.underlying45 rfl) λ_ g=>g.mv rfl λ_ g=>zM (tn (zW ?_)))))))
    obtain ⟨I_l3,μ_l3,h0,hb⟩:=H
    refine yI (ds:=[]) (N:=101) (σ:=Int) (λs=>[(44,(.int .i64 s)),(5,(.pointer r_1)),(7,(.pointer r_3)),(42,(Sl.v x1)),(43,(.int .i64 (x1.len:Int)))]) (λs w=>I_l3 s w) (λs w=>μ_l3 s w) 0 h0 (g.wk) ?_
    intro x44 w a hI g
    try dsimp only at hI g
    obtain ⟨Kl3,hK_l3⟩:∃ K:Int->World->Prop,K=(λx44' w'=>I_l3 x44' w'/\μ_l3 x44' w'<μ_l3 x44 w):=⟨_,rfl⟩
    have H:zBC x1 Ret r_1 r_3 x44 w Kl3:=by rw [hK_l3];exact hb x44 w hI
    clear hb h0 hI
    unfold zBC at H
    refine zK (zE (g.pur (yZ g rfl rfl) λ_ g=>zM (tn (zK (zc g rfl (λhc=>?_) (λhc=>?_))))))
    ·replace H:=H.1 hc
     refine zX (tn (zK (zW (zK (zE (g.op (zH g rfl rfl) H λx46 w a H g=>g.op (zP g rfl) H λx47 w a H g=>g.op (QU) H λx10 w a H g=>g.opu (zT g rfl rfl) H λw a H g=>zM (tn (zK (zE (g.mv rfl λ_ g=>g.op (zP g rfl) H λx49 w a H g=>g.call (zY g zRG rfl rfl) H λe w H=>?_))))))))))
     obtain ⟨r_5,rfl,H⟩:=H
     refine ⟨_,rfl,λ_ g=>(g.op (QU) H λx11 w a H g=>g.opu (zT g rfl rfl) H λw a H g=>zM (tn (zK (zK (zM8 H 6 λC4 w hC0 H=>g.kp 1 rfl hC0 (Qm (zR g rfl)) λ_ g=>g.ko 0 rfl hC0 (zP g rfl) H λx51 a H g=>g.ko 2 rfl hC0 (zP g rfl) H λx53 a H g=>WK.on 3 rfl ?_)))))⟩
     intro K hK
     refine g.wcall (zY g zRK rfl rfl) H λe w H=>?_
     obtain ⟨r_6,rfl,H⟩:=H
     refine ⟨_,rfl,λ_ g=>(hK _ _ ⟨H.1,?_⟩)⟩
     have hC1:=H.1
     replace H:=H.2
     refine WK.on 4 rfl ?_
     intro K hK
     refine g.wcall (zY g zRI rfl rfl) H λe w H=>?_
     obtain ⟨r_7,rfl,H⟩:=H
     refine ⟨_,rfl,λ_ g=>(hK _ _ ⟨H.1,?_⟩)⟩
     have hC2:=H.1
     replace H:=H.2
     refine g.kp 5 rfl hC2 (Qm (zAW g rfl)) λ_ g=>WK.nil (by kernel_rfl) ((tn (zg g rfl (λhc=>?_) (λhc=>?_))))
     ·replace H:=H.1 hc
      exact zK (zE (g.as_ rfl λ_ g=>zM (tn (zf (tr (br (tr (tr (br (tr (zx g rfl rfl ⟨_,rfl,H⟩)))))))))))
     ·replace H:=H.2 hc
      refine zX (tn (zK (zK (zE (g.op (zQ g rfl) H λx57 w a H g=>g.op (zP g rfl) H λx58 w a H g=>g.purR (λw=>ZZ g Tryz.underlying22 rfl) λ_ g=>g.mv rfl λ_ g=>zM (tn (zW ?_)))))))
      obtain ⟨I_l5,μ_l5,h0,hb⟩:=H
      refine yI (ds:=[]) (N:=101) (σ:=Int) (λs=>[(60,(.int .i64 s)),(5,(.pointer r_1)),(7,(.pointer r_3)),(11,(.pointer x11)),(42,(Sl.v x1)),(43,(.int .i64 (x1.len:Int))),(44,(.int .i64 x44)),(59,(.int .i64 (x58.len:Int)))]) (λs w=>I_l5 s w) (λs w=>μ_l5 s w) 0 h0 (g.wk) ?_
      intro x60 w a hI g
      try dsimp only at hI g
      obtain ⟨Kl5,hK_l5⟩:∃ K:Int->World->Prop,K=(λx60' w'=>I_l5 x60' w'/\μ_l5 x60' w'<μ_l5 x60 w):=⟨_,rfl⟩
      have H:zAr r_1 x44 Kl3 x11 x58 x60 w Kl5:=by rw [hK_l5];exact hb x60 w hI
      clear hb h0 hI
      unfold zAr at H
      refine zK (zE (g.pur (yZ g rfl rfl) λ_ g=>zM (tn (zK (zc g rfl (λhc=>?_) (λhc=>?_))))))
      ·replace H:=H.1 hc
       refine zX (tn (zK (zW (zK (zE (g.mv rfl λ_ g=>g.as_ rfl λ_ g=>zM (tn (zE (g.op (zQ g rfl) H λx63 w a H g=>g.op (zP g rfl) H λx64 w a H g=>g.mv rfl λ_ g=>g.op (ZS g rfl) H λx66 w a H g=>g.op (zH g rfl rfl) H λx67 w a H g=>g.opu (zT g rfl rfl) H λw a H g=>zM (bn (tn (zE (g.pur (zo g rfl rfl) λ_ g=>g.mv rfl λ_ g=>?_)))))))))))))
       rw [hK_l5] at H
       exact zM (tn ⟨(zC .i64 (x60+1)),g.wk,H⟩)
      ·replace H:=H.2 hc
       refine yD (te (te (be (tn (zK (zK (zE (g.op (zQ g rfl) H λx69 w a H g=>g.op (zP g rfl) H λx70 w a H g=>g.purR (λw=>ZZ g Tryz.underlying30 rfl) λ_ g=>g.mv rfl λ_ g=>zM (tn (zW ?_))))))))))
       obtain ⟨I_l6,μ_l6,h0,hb⟩:=H
       refine yI (ds:=[]) (N:=101) (σ:=Int) (λs=>[(72,(.int .i64 s)),(5,(.pointer r_1)),(7,(.pointer r_3)),(11,(.pointer x11)),(42,(Sl.v x1)),(43,(.int .i64 (x1.len:Int))),(44,(.int .i64 x44)),(71,(.int .i64 (x70.len:Int)))]) (λs w=>I_l6 s w) (λs w=>μ_l6 s w) 0 h0 (g.wk) ?_
       intro x72 w a hI g
       try dsimp only at hI g
       obtain ⟨Kl6,hK_l6⟩:∃ K:Int->World->Prop,K=(λx72' w'=>I_l6 x72' w'/\μ_l6 x72' w'<μ_l6 x72 w):=⟨_,rfl⟩
       have H:zAy r_1 x44 Kl3 x11 x70 x72 w Kl6:=by rw [hK_l6];exact hb x72 w hI
       clear hb h0 hI
       unfold zAy at H
       refine zK (zE (g.pur (yZ g rfl rfl) λ_ g=>zM (tn (zK (zc g rfl (λhc=>?_) (λhc=>?_))))))
       ·replace H:=H.1 hc
        refine zX (tn (zK (zW (zK (zE (g.mv rfl λ_ g=>g.as_ rfl λ_ g=>zM (tn (zE (g.op (zQ g rfl) H λx75 w a H g=>g.op (zP g rfl) H λx76 w a H g=>g.mv rfl λ_ g=>g.op (ZS g rfl) H λx78 w a H g=>g.op (zH g rfl rfl) H λx79 w a H g=>g.opu (zT g rfl rfl) H λw a H g=>zM (bn (tn (zE (g.pur (zo g rfl rfl) λ_ g=>g.mv rfl λ_ g=>?_)))))))))))))
        rw [hK_l6] at H
        exact zM (tn ⟨(zC .i64 (x72+1)),g.wk,H⟩)
       ·replace H:=H.2 hc
        refine yD (te (te (be (tn (zK (zE (g.mv rfl λ_ g=>g.call (zY g zOT rfl rfl) H λe w H=>?_)))))))
        obtain ⟨r_8,rfl,H⟩:=H
        refine ⟨_,rfl,λ_ g=>(g.op (QU) H λx14 w a H g=>g.opu (zT g rfl rfl) H λw a H g=>zM (tn (zK (zE (g.op (zQ g rfl) H λx83 w a H g=>g.op (zP g rfl) H λx84 w a H g=>g.purR (λw=>ZZ g Tryz.underlying67 rfl) λ_ g=>g.mv rfl λ_ g=>zM (tn (zW ?_)))))))⟩
        obtain ⟨I_l7,μ_l7,h0,hb⟩:=H
        refine yI (ds:=[]) (N:=101) (σ:=Int) (λs=>[(86,(.int .i64 s)),(5,(.pointer r_1)),(7,(.pointer r_3)),(14,(.pointer x14)),(42,(Sl.v x1)),(43,(.int .i64 (x1.len:Int))),(44,(.int .i64 x44)),(85,(.int .i64 (x84.len:Int)))]) (λs w=>I_l7 s w) (λs w=>μ_l7 s w) 0 h0 (g.wk) ?_
        intro x86 w a hI g
        try dsimp only at hI g
        obtain ⟨Kl7,hK_l7⟩:∃ K:Int->World->Prop,K=(λx86' w'=>I_l7 x86' w'/\μ_l7 x86' w'<μ_l7 x86 w):=⟨_,rfl⟩
        have H:zA8 x44 Kl3 x14 x84 x86 w Kl7:=by rw [hK_l7];exact hb x86 w hI
        clear hb h0 hI
        unfold zA8 at H
        refine zK (zE (g.pur (yZ g rfl rfl) λ_ g=>zM (tn (zK (zc g rfl (λhc=>?_) (λhc=>?_))))))
        ·replace H:=H.1 hc
         refine zX (tn (zK (zW (zK (zE (g.mv rfl λ_ g=>g.as_ rfl λ_ g=>zM (tn (zE (g.op (zQ g rfl) H λx89 w a H g=>g.op (zP g rfl) H λx90 w a H g=>g.mv rfl λ_ g=>g.op (ZS g rfl) H λx92 w a H g=>g.op (zH g rfl rfl) H λx93 w a H g=>g.opu (zT g rfl rfl) H λw a H g=>zM (bn (tn (zE (g.pur (zo g rfl rfl) λ_ g=>g.mv rfl λ_ g=>?_)))))))))))))
         rw [hK_l7] at H
         exact zM (tn ⟨(zC .i64 (x86+1)),g.wk,H⟩)
        ·replace H:=H.2 hc
         refine yD (te (te (be (bn (tn (zE (g.pur (zo g rfl rfl) λ_ g=>g.mv rfl λ_ g=>?_)))))))
         rw [hK_l3] at H
         exact zM (tn ⟨(zC .i64 (x44+1)),g.wk,H⟩)
    ·replace H:=H.2 hc
     refine yD (te (te (be (tn (zK (zE (g.mv rfl λ_ g=>g.call (zY g zOT rfl rfl) H λe w H=>?_)))))))
     obtain ⟨r_9,rfl,H⟩:=H
     refine ⟨_,rfl,λ_ g=>(g.mv rfl λ_ g=>g.call (zY g zOT rfl rfl) H λe w H=>?_)⟩
     obtain ⟨r_10,rfl,H⟩:=H
     refine ⟨_,rfl,λ_ g=>(g.call (zY g zRe rfl rfl) H λe w H=>?_)⟩
     obtain ⟨r_11,rfl,H⟩:=H
     exact ⟨_,rfl,λ_ g=>(g.as_ rfl λ_ g=>zM (tn (zf (zx g rfl rfl ⟨_,rfl,H⟩))))⟩
  ·rcases Bool.eq_false_or_eq_true (x29) with hbr1|hbr1
   ·replace H:=H.1 hbr1
    replace g:=g.bool (b:=true) (t:=30) rfl (hbr1)
    exact g.off (by rfl) (by rfl) (by decide) (λ_ g=>g.off (by rfl) (by rfl) (by decide) (λ_ g=>g.pur (zw g rfl rfl) λ_ g=>hr1 true _ _ H (g.wk)))
   ·replace H:=H.2 hbr1
    replace g:=g.bool (b:=false) (t:=30) rfl (hbr1)
    exact g.on (by rfl) (by rfl) (g.mv rfl λ_ g=>g.on (by rfl) (by rfl) (g.op (zB6 g rfl rfl) H λx32 w a H g=>g.pur (zv g rfl rfl) λ_ g=>hr1 x32 _ _ H (g.wk)))
def yu (Ret:zb->World->Prop) (x4:Option Addr) (x5:Option Addr) (w:World):Prop:=
 opE zA zb.v (zD 51 (.pointer x5)) w (λx88 w=>opU zA (zI 51 (.pointer x4) (zb.v x88)) w (λw=>opR zA zb.v 51 x4 w (λq=>Ret q w)))
def zE1 (x0:Option Addr) (x1:z6) (w:World) (Ret:zb->World->Prop):Prop:=
 opE zA zB (Instr.box 49 (z6.v x1)) w (λx3 w=>opE zA zB (ze 51 true (.tuple #[])) w (λx4 w=>opE zA zB (ze 51 true (.tuple #[])) w (λx5 w=>opE zA zB (zL 49 (.pointer x3) 0) w (λx6 w=>opE zA (zU .u8) (zD 47 (.pointer x6)) w (λx7 w=>((x7=1)->(Cl zA 12 [(.pointer x0)].toArray w (λe w=>∃ (r:Int) (r_1:Int),e=.returned (.tuple [(.int .i64 r),(.int .i64 r_1)].toArray)/\(opE zA zB (zL 51 (.pointer x5) 1) w (λx16 w=>opU zA (zI 3 (.pointer x16) (.int .i64 r)) w (λw=>opE zA zB (zL 51 (.pointer x5) 0) w (λx17 w=>opU zA (zI 27 (.pointer x17) (.int .i64 r_1)) w (λw=>yu Ret x4 x5 w))))))))/\(¬ (x7=1)->(((x7=2)->(opE zA zB (zL 49 (.pointer x3) 1) w (λx22 w=>opE zA (zU .i64) (zD 3 (.pointer x22)) w (λx23 w=>opE zA zB (zL 49 (.pointer x3) 2) w (λx24 w=>opE zA za (zD 9 (.pointer x24)) w (λx25 w=>Cl zA 22 [(.pointer x0),(.int .i64 x23),(.string x25)].toArray w (λe w=>∃ (r_2:ByteArray) (r_3:Bool) (r_4:Int),e=.returned (.tuple [(.string r_2),(.bool r_3),(.int .i64 r_4)].toArray)/\(opE zA zB (zL 51 (.pointer x5) 2) w (λx30 w=>opU zA (zI 9 (.pointer x30) (.string r_2)) w (λw=>opE zA zB (zL 51 (.pointer x5) 3) w (λx31 w=>opU zA (zI 4 (.pointer x31) (.bool r_3)) w (λw=>opE zA zB (zL 51 (.pointer x5) 0) w (λx32 w=>opU zA (zI 27 (.pointer x32) (.int .i64 r_4)) w (λw=>yu Ret x4 x5 w))))))))))))))/\(¬ (x7=2)->(((x7=3)->(opE zA zB (zL 49 (.pointer x3) 1) w (λx37 w=>opE zA (zU .i64) (zD 3 (.pointer x37)) w (λx38 w=>opE zA zB (zL 49 (.pointer x3) 2) w (λx39 w=>opE zA za (zD 9 (.pointer x39)) w (λx40 w=>opE zA zB (zL 49 (.pointer x3) 3) w (λx41 w=>opE zA za (zD 9 (.pointer x41)) w (λx42 w=>Cl zA 17 [(.pointer x0),(.int .i64 x38),(.string x40),(.string x42)].toArray w (λe w=>∃ (r_5:Sl) (r_6:Int),e=.returned (.tuple [(Sl.v r_5),(.int .i64 r_6)].toArray)/\(opE zA zB (zL 51 (.pointer x5) 4) w (λx46 w=>opU zA (zI 22 (.pointer x46) (Sl.v r_5)) w (λw=>opE zA zB (zL 51 (.pointer x5) 0) w (λx47 w=>opU zA (zI 27 (.pointer x47) (.int .i64 r_6)) w (λw=>yu Ret x4 x5 w))))))))))))))/\(¬ (x7=3)->(((x7=4)->(opE zA zB (zL 49 (.pointer x3) 1) w (λx51 w=>opE zA (zU .i64) (zD 3 (.pointer x51)) w (λx52 w=>opE zA zB (zL 49 (.pointer x3) 2) w (λx53 w=>opE zA za (zD 9 (.pointer x53)) w (λx54 w=>opE zA zB (zL 49 (.pointer x3) 4) w (λx55 w=>opE zA za (zD 9 (.pointer x55)) w (λx56 w=>Cl zA 14 [(.pointer x0),(.int .i64 x52),(.string x54),(.string x56)].toArray w (λe w=>∃ (r_7:Int),e=.returned (.int .i64 r_7)/\(opE zA zB (zL 51 (.pointer x5) 0) w (λx58 w=>opU zA (zI 27 (.pointer x58) (.int .i64 r_7)) w (λw=>yu Ret x4 x5 w))))))))))))/\(¬ (x7=4)->(((x7=5)->(opE zA zB (zL 49 (.pointer x3) 1) w (λx62 w=>opE zA (zU .i64) (zD 3 (.pointer x62)) w (λx63 w=>opE zA zB (zL 49 (.pointer x3) 2) w (λx64 w=>opE zA za (zD 9 (.pointer x64)) w (λx65 w=>Cl zA 13 [(.pointer x0),(.int .i64 x63),(.string x65)].toArray w (λe w=>∃ (r_8:Int),e=.returned (.int .i64 r_8)/\(opE zA zB (zL 51 (.pointer x5) 0) w (λx67 w=>opU zA (zI 27 (.pointer x67) (.int .i64 r_8)) w (λw=>yu Ret x4 x5 w))))))))))/\(¬ (x7=5)->(((x7=6)->(opE zA zB (zL 49 (.pointer x3) 1) w (λx72 w=>opE zA (zU .i64) (zD 3 (.pointer x72)) w (λx73 w=>Cl zA 15 [(.pointer x0),(.int .i64 x73)].toArray w (λe w=>∃ (r_9:Sl) (r_10:Int) (r_11:Int),e=.returned (.tuple [(Sl.v r_9),(.int .u64 r_10),(.int .i64 r_11)].toArray)/\(opE zA zB (zL 51 (.pointer x5) 5) w (λx78 w=>opU zA (zI 30 (.pointer x78) (Sl.v r_9)) w (λw=>opE zA zB (zL 51 (.pointer x5) 6) w (λx79 w=>opU zA (zI 37 (.pointer x79) (.int .u64 r_10)) w (λw=>opE zA zB (zL 51 (.pointer x5) 0) w (λx80 w=>opU zA (zI 27 (.pointer x80) (.int .i64 r_11)) w (λw=>yu Ret x4 x5 w))))))))))))/\(¬ (x7=6)->(((x7=7)->(opE zA zB (zL 49 (.pointer x3) 1) w (λx84 w=>opE zA (zU .i64) (zD 3 (.pointer x84)) w (λx85 w=>Cl zA 29 [(.pointer x0),(.int .i64 x85)].toArray w (λe w=>∃ (r_12:Int),e=.returned (.int .i64 r_12)/\(opE zA zB (zL 51 (.pointer x5) 0) w (λx87 w=>opU zA (zI 27 (.pointer x87) (.int .i64 r_12)) w (λw=>yu Ret x4 x5 w))))))))/\(¬ (x7=7)->(opE zA zB (zL 51 (.pointer x5) 0) w (λx8 w=>opU zA (zI 27 (.pointer x8) (.int .i64 15)) w (λw=>yu Ret x4 x5 w)))))))))))))))))))))
set_option maxRecDepth 100000 in
theorem zIS (x0:Option Addr) (x1:z6) (w:World) (Ret:zb->World->Prop) (H:zE1 x0 x1 w Ret):Cl zA 23 [(.pointer x0),(z6.v x1)].toArray w (λe w'=>∃ (r0:zb),e=.returned (zb.v r0)/\Ret r0 w'):=by
 unfold zE1 at H
 refine zj 89 (zipE 0 [(.pointer x0),(z6.v x1)]) Tryz.func23 rfl rfl (by rfl) rfl ?_
 intro a g
 replace g:Sat [] 89 [(0,(.pointer x0)),(1,(z6.v x1))] a:=g
 refine zK (zE (g.op (zBE g rfl) H λx3 w a H g=>g.op (QU) H λx4 w a H g=>zM (tn (zK (zE (g.op (QU) H λx5 w a H g=>zM (tn (yF (ds:=[]) (N:=89) (σ:=Unit) (λs=>[(4,(.pointer x4)),(5,(.pointer x5))]) (λs w=>yu Ret x4 x5 w) ?_ (λhj1=>?_)))))))))
 ·rintro ⟨⟩ w a H g
  try dsimp only at H g
  unfold yu at H
  refine zK (zE (g.op (zP g rfl) H λx88 w a H g=>g.opu (zT g rfl rfl) H λw a H g=>zM (tn ?_)))
  obtain ⟨q,ad,hp,hl,H⟩:=H
  exact zf (zGi g (rs:=[.cell 4 51]) (vs:=[(zb.v q)]) rfl ⟨⟨ad,by rw [← hp];rfl,hl⟩,trivial⟩ ⟨_,rfl,H⟩)
 ·refine zK (zE (g.op (zQ g rfl) H λx6 w a H g=>g.op (zP g rfl) H λx7 w a H g=>zM (tn (zW (zK (zE (g.pur (ZE g rfl rfl) λ_ g=>g.as_ rfl λ_ g=>zM (tn (zc g rfl (λhc=>?_) (λhc=>?_))))))))))
  ·replace H:=H.1 hc
   refine zE (g.mv rfl λ_ g=>g.call (zY g zNN rfl rfl) H λe w H=>?_)
   obtain ⟨r,r_1,rfl,H⟩:=H
   exact ⟨_,rfl,λ_ g=>(g.mv rfl λ_ g=>g.pur (zZ g rfl rfl) λ_ g=>g.pur (zZ g rfl rfl) λ_ g=>g.op (zQ g rfl) H λx16 w a H g=>g.opu (zT g rfl rfl) H λw a H g=>g.op (zQ g rfl) H λx17 w a H g=>g.opu (zT g rfl rfl) H λw a H g=>zM (bn (tn (hj1 () _ _ H (g.wk)))))⟩
  ·replace H:=H.2 hc
   refine zK (zE (g.pur (ZE g rfl rfl) λ_ g=>g.as_ rfl λ_ g=>zM (tn (zc g rfl (λhc=>?_) (λhc=>?_)))))
   ·replace H:=H.1 hc
    refine zE (g.mv rfl λ_ g=>g.op (zQ g rfl) H λx22 w a H g=>g.op (zP g rfl) H λx23 w a H g=>g.op (zQ g rfl) H λx24 w a H g=>g.op (zP g rfl) H λx25 w a H g=>g.call (zY g zNT rfl rfl) H λe w H=>?_)
    obtain ⟨r_2,r_3,r_4,rfl,H⟩:=H
    exact ⟨_,rfl,λ_ g=>(g.mv rfl λ_ g=>g.pur (zZ g rfl rfl) λ_ g=>g.pur (zZ g rfl rfl) λ_ g=>g.pur (zZ g rfl rfl) λ_ g=>g.op (zQ g rfl) H λx30 w a H g=>g.opu (zT g rfl rfl) H λw a H g=>g.op (zQ g rfl) H λx31 w a H g=>g.opu (zT g rfl rfl) H λw a H g=>g.op (zQ g rfl) H λx32 w a H g=>g.opu (zT g rfl rfl) H λw a H g=>zM (bn (tn (hj1 () _ _ H (g.wk)))))⟩
   ·replace H:=H.2 hc
    refine zK (zE (g.pur (ZE g rfl rfl) λ_ g=>g.as_ rfl λ_ g=>zM (tn (zc g rfl (λhc=>?_) (λhc=>?_)))))
    ·replace H:=H.1 hc
     refine zE (g.mv rfl λ_ g=>g.op (zQ g rfl) H λx37 w a H g=>g.op (zP g rfl) H λx38 w a H g=>g.op (zQ g rfl) H λx39 w a H g=>g.op (zP g rfl) H λx40 w a H g=>g.op (zQ g rfl) H λx41 w a H g=>g.op (zP g rfl) H λx42 w a H g=>g.call (zY g zP5 rfl rfl) H λe w H=>?_)
     obtain ⟨r_5,r_6,rfl,H⟩:=H
     exact ⟨_,rfl,λ_ g=>(g.mv rfl λ_ g=>g.pur (zZ g rfl rfl) λ_ g=>g.pur (zZ g rfl rfl) λ_ g=>g.op (zQ g rfl) H λx46 w a H g=>g.opu (zT g rfl rfl) H λw a H g=>g.op (zQ g rfl) H λx47 w a H g=>g.opu (zT g rfl rfl) H λw a H g=>zM (bn (tn (hj1 () _ _ H (g.wk)))))⟩
    ·replace H:=H.2 hc
     refine zK (zE (g.pur (ZE g rfl rfl) λ_ g=>g.as_ rfl λ_ g=>zM (tn (zc g rfl (λhc=>?_) (λhc=>?_)))))
     ·replace H:=H.1 hc
      refine zE (g.mv rfl λ_ g=>g.op (zQ g rfl) H λx51 w a H g=>g.op (zP g rfl) H λx52 w a H g=>g.op (zQ g rfl) H λx53 w a H g=>g.op (zP g rfl) H λx54 w a H g=>g.op (zQ g rfl) H λx55 w a H g=>g.op (zP g rfl) H λx56 w a H g=>g.call (zY g zNQ rfl rfl) H λe w H=>?_)
      obtain ⟨r_7,rfl,H⟩:=H
      exact ⟨_,rfl,λ_ g=>(g.op (zQ g rfl) H λx58 w a H g=>g.opu (zT g rfl rfl) H λw a H g=>zM (bn (tn (hj1 () _ _ H (g.wk)))))⟩
     ·replace H:=H.2 hc
      refine zK (zE (g.pur (ZE g rfl rfl) λ_ g=>g.as_ rfl λ_ g=>zM (tn (zc g rfl (λhc=>?_) (λhc=>?_)))))
      ·replace H:=H.1 hc
       refine zE (g.mv rfl λ_ g=>g.op (zQ g rfl) H λx62 w a H g=>g.op (zP g rfl) H λx63 w a H g=>g.op (zQ g rfl) H λx64 w a H g=>g.op (zP g rfl) H λx65 w a H g=>g.call (zY g zQH rfl rfl) H λe w H=>?_)
       obtain ⟨r_8,rfl,H⟩:=H
       exact ⟨_,rfl,λ_ g=>(g.op (zQ g rfl) H λx67 w a H g=>g.opu (zT g rfl rfl) H λw a H g=>zM (bn (tn (hj1 () _ _ H (g.wk)))))⟩
      ·replace H:=H.2 hc
       refine zK (zE (g.pur (ZE g rfl rfl) λ_ g=>g.as_ rfl λ_ g=>zM (tn (zc g rfl (λhc=>?_) (λhc=>?_)))))
       ·replace H:=H.1 hc
        refine zE (g.mv rfl λ_ g=>g.op (zQ g rfl) H λx72 w a H g=>g.op (zP g rfl) H λx73 w a H g=>g.call (zY g zNb rfl rfl) H λe w H=>?_)
        obtain ⟨r_9,r_10,r_11,rfl,H⟩:=H
        exact ⟨_,rfl,λ_ g=>(g.mv rfl λ_ g=>g.pur (zZ g rfl rfl) λ_ g=>g.pur (zZ g rfl rfl) λ_ g=>g.pur (zZ g rfl rfl) λ_ g=>g.op (zQ g rfl) H λx78 w a H g=>g.opu (zT g rfl rfl) H λw a H g=>g.op (zQ g rfl) H λx79 w a H g=>g.opu (zT g rfl rfl) H λw a H g=>g.op (zQ g rfl) H λx80 w a H g=>g.opu (zT g rfl rfl) H λw a H g=>zM (bn (tn (hj1 () _ _ H (g.wk)))))⟩
       ·replace H:=H.2 hc
        refine zK (zE (g.pur (ZE g rfl rfl) λ_ g=>g.as_ rfl λ_ g=>zM (tn (zc g rfl (λhc=>?_) (λhc=>?_)))))
        ·replace H:=H.1 hc
         refine zE (g.mv rfl λ_ g=>g.op (zQ g rfl) H λx84 w a H g=>g.op (zP g rfl) H λx85 w a H g=>g.call (zY g zQG rfl rfl) H λe w H=>?_)
         obtain ⟨r_12,rfl,H⟩:=H
         exact ⟨_,rfl,λ_ g=>(g.op (zQ g rfl) H λx87 w a H g=>g.opu (zT g rfl rfl) H λw a H g=>zM (bn (tn (hj1 () _ _ H (g.wk)))))⟩
        ·replace H:=H.2 hc
         exact zE (g.op (zQ g rfl) H λx8 w a H g=>g.opu (zT g rfl rfl) H λw a H g=>zM (bn (tn (hj1 () _ _ H (g.wk)))))
end Go.Proofs.YtealcoghiaeiiaaGreat.VG
set_option linter.unusedVariables false
set_option linter.unusedSimpArgs false
namespace Go.VB
open Go.RowKit
section
variable {P:Program} {w:World} {α:Type} {c:α->List Value} {enc:α->Value} {n e t base:Nat} {s:Sl}
theorem zKA (E:zDS P t e n c enc) {xs:List α} (hO:OwnS c n e base w s xs) {i:Nat} (hi:i<xs.length) (x:α) {k:World->Prop}
  (H:∀ w',OwnS c n e base w' s (xs.set i x)->w.grownBy w' (Sl.v s).ownBlock->k w'):
  opE P zB (zF t (Sl.v s) (.int .i64 (i:Int))) w (λp w=>opU P (zI e (.pointer p) (enc x)) w k):=by
 obtain ⟨y,hy⟩:∃ y,xs[i]?=some y:=⟨xs[i],by simp [hi]⟩
 obtain ⟨ad,had,-⟩:=(hO.rd E.len).cells i y hy
 have hl:=hO.len
 obtain ⟨w',hs,hO',hg⟩:=zIG E hO hi x had
 exact ⟨_,w,zIJ E.und E.esz had (by omega) (by omega),w',by simpa using hs,H w' hO' hg⟩
theorem OwnS.cellsT {xs:List α} (h:OwnS c n e base w s xs) {k:Nat} (hk:(Sl.v s).ownBlock=some k):∃ cur,w.heap[k]?=some (.cells cur e (0,0)):=by
 rcases h.row.2 with ⟨h1,_⟩|⟨g,cap,cur,h1,_,hh,_⟩
 ·rw [h1] at hk;cases hk
 ·rw [h1] at hk
  simp [Value.ownBlock] at hk
  subst hk
  exact ⟨_,hh⟩
theorem OwnS.ne_own {β:Type} {c':β->List Value} {n' e' base':Nat} {s':Sl} {xs:List α} {ys:List β} (h:OwnS c n e base w s xs) (h':OwnS c' n' e' base' w s' ys) (hne:e≠e'):(Sl.v s).ownBlock=none∨(Sl.v s).ownBlock≠(Sl.v s').ownBlock:=by
 cases hk:(Sl.v s).ownBlock with
 |none=>exact .inl rfl
 |some k=>
  refine .inr λe1=>?_
  obtain ⟨a,ha⟩:=h.cellsT hk
  obtain ⟨a',ha'⟩:=h'.cellsT e1.symm
  rw [ha] at ha';cases ha';exact hne rfl
end
end Go.VB
namespace Go.Proofs.YtealcoghiaeiiaaGreat.VG
open Go.VB Go.Proofs Go.RowKit
abbrev zRu:zb:=⟨0,0,noB,false,Sl.none,Sl.none,0⟩
theorem zPk {ρ:Own} {w:World} {b:Nat} {s:St} (h:Mgr ρ w b s) (hI:Inv s) (hn:s.now<4611686018427387904) (hg:s.given<4611686018427387904) (x:z6) {k:zb->World->Prop}
  (H:∀ y ρ' w',Mgr ρ' w' b (doS s x).1->Ext ρ w ρ' w'->zHt w.heap.size ρ' w' y (doS s x).2->k y w'):
  Cl zA zIR [.pointer (ptrA b),z6.v x].toArray w (λe w'=>∃ r0:zb,e=.returned (zb.v r0)/\k r0 w'):=by
 refine zIS (ptrA b) x w k ?_
 unfold zE1
 refine zAF (cs:=x.cells) rfl λX w1 b1 hX hX0=>?_
 refine zCr zCk λA w2 b2 hA hA0=>?_
 refine zCr zCk λC w3 b3 hC hC0=>?_
 have b13:=b2.trans b3
 have b03:=b1.trans b13
 replace hX:=hX.bel b13
 have hA2:=hA.lt
 replace hA:=hA.bel b3
 have s1:=b1.le;have s2:=b2.le
 have hlt:=h.lt
 have hnone:∀ q,w.heap.size<=q->ρ q=none:=λq hq=>by
  cases hρ:ρ q with
  |none=>rfl
  |some r=>have:=hlt q (by rw [hρ];simp);omega
 have h3:=h.bel b03
 have hXl:=hX.lt;have hAl:=hA.lt;have hCl:=hC.lt
 have hAC:A≠C:=by omega
 have J1:∀ W (y:zb) ρ',Ext ρ w ρ' W->ρ' A=none->Mgr ρ' W b (doS s x).1->(∃ z:List Value,z.length=7/\Row W A z zAc)->Row W C y.cells zAc->zHt w.heap.size ρ' W y (doS s x).2->yu k (ptrA A) (ptrA C) W:=by
  rintro W y ρ' g hρA hM ⟨z,hz,hAW⟩ hCW hy
  unfold yu
  refine zBY Zz y rfl hCW.at rfl ?_
  have hone:y.cells.all (·.oneCell')=true:=by
   obtain ⟨a1,a2,a3,a4,⟨a5,a51,a52⟩,⟨a6,a61,a62⟩,a7⟩:=y
   cases a5<;>cases a6<;>rfl
  refine zHU Zz hAW hz rfl hone λw5 hA5 g5=>?_
  refine R.agg Zz y rfl hA5.at rfl (H y ρ' w5 (hM.other g5 hρA) (g.new g5 (by omega)) ?_)
  have hp:(Sl.v y.Pairs).ownBlock≠some A:=OwnS.ne_row hy.pairs hAW (by decide)
  have hd:(Sl.v y.Done).ownBlock≠some A:=OwnS.ne_row hy.done hAW (by decide)
  exact {hy with pairs:=hy.pairs.kept g5 (.inr hp),done:=hy.done.kept g5 (.inr hd)}
 have mid:∀ {ρ' W s' p ps d ds},Mgr ρ' W b s'->Ext ρ w3 ρ' W->Z1 w3.heap.size W p ps->zBn w3.heap.size W d ds->(∀ q,(Sl.v p).ownBlock=some q->ρ' q=none)->(∀ q,(Sl.v d).ownBlock=some q->ρ' q=none)->Mid ρ w b A C s' p ps d ds ρ' W zRu.cells:=by
  intro ρ' W s' p ps d ds hM g hp hd hrp hrd
  have s03:=b03.le
  exact {
   mgr:=hM
   ext:=(Ext.bel b03).trans g
   rA:=(g.same A hAl).trans (hnone A (by omega))
   rC:=(g.same C hCl).trans (hnone C (by omega))
   a:=⟨_,rfl,hA.keep (g.blk hAl (hnone A (by omega)))⟩
   c:=hC.keep (g.blk hCl (hnone C (by omega)))
   pr:=hp.low s03
   dn:=hd.low s03
   rp:=hrp
   rd:=hrd}
 have nop:∀ {W},Z1 w3.heap.size W Sl.none []:=OwnS.nil _ _ _ _ _
 have nod:∀ {W},zBn w3.heap.size W Sl.none []:=OwnS.nil _ _ _ _ _
 have nor:∀ {ρ':Own} q,(Sl.v Sl.none).ownBlock=some q->ρ' q=none:=λq e=>by cases e
 have hwC:w.heap.size<=C:=by omega
 have fin:∀ {ρ' W s' p ps d ds} {y:zb} {a:Ans},doS s x=(s',a)->Mid ρ w b A C s' p ps d ds ρ' W y.cells->y.Why=a.why->y.Tx=a.tx->y.Val=a.val->y.Is=a.is->y.Pairs=p->a.pairs=ps->y.Done=d->a.done=ds->y.Time=a.time->yu k (ptrA A) (ptrA C) W:=by
  intro ρ' W s' p ps d ds y a he M e1 e2 e3 e4 e5 e6 e7 e8 e9
  refine J1 W y ρ' M.ext M.rA (by rw [he];exact M.mgr) M.a M.c ?_
  rw [he]
  subst e5;subst e6;subst e7;subst e8
  exact ⟨e1,e2,e3,e4,M.pr,M.dn,e9,M.rp,M.rd⟩
 have slv:∀ z:Sl,(Sl.v z).cells.toList=[Sl.v z]/\(Sl.v z).oneCell'=true:=λz=>by cases z with|mk a l c=>cases a<;>exact ⟨rfl,rfl⟩
 refine z8 ZW zBc hX.at x.Kind rfl ⟨λhk=>?_,λk1=>?_⟩
 ·have he:doS s x=zBx s:=by unfold doS;rw [if_pos hk]
  refine zNI h3 hI hg λρ' W hM g=>?_
  have M:=mid hM g nop nod nor nor
  refine ⟨_,W,zCb _ _,?_⟩
  refine M.st ZH rfl (by show _<7;decide) rfl hwC hAC λW1 M=>?_
  refine ⟨_,W1,yM _ _,?_⟩
  refine M.st (off:=0) YT rfl (by show _<7;decide) rfl hwC hAC λW2 M=>?_
  exact fin (y:=⟨(zBx s).2.why,(zBx s).2.tx,noB,false,Sl.none,Sl.none,0⟩) (a:={ans0 with tx:=(zBx s).2.tx,why:=(zBx s).2.why}) (by rw [he,← zMZ]) M rfl rfl rfl rfl rfl rfl rfl rfl rfl
 refine ⟨λhk=>?_,λk2=>?_⟩
 ·have he:doS s x=getD s x.Tx x.Key:=by unfold doS;rw [if_neg k1,if_pos hk]
  refine z8 YZ ZH hX.at x.Tx rfl ?_
  refine z8 Zq zm hX.at x.Key rfl ?_
  refine zQB h3 x.Tx x.Key λρ' W hM g=>?_
  have M:=mid hM g nop nod nor nor
  refine ⟨_,W,zCL _ _,?_⟩
  refine M.st zm rfl (by show _<7;decide) rfl hwC hAC λW1 M=>?_
  refine ⟨_,W1,zCa _ _,?_⟩
  refine M.st zCe rfl (by show _<7;decide) rfl hwC hAC λW2 M=>?_
  refine ⟨_,W2,yM _ _,?_⟩
  refine M.st (off:=0) YT rfl (by show _<7;decide) rfl hwC hAC λW3 M=>?_
  exact fin (y:=⟨(getD s x.Tx x.Key).2.why,0,(getD s x.Tx x.Key).2.val,(getD s x.Tx x.Key).2.is,Sl.none,Sl.none,0⟩) (a:={ans0 with val:=(getD s x.Tx x.Key).2.val,is:=(getD s x.Tx x.Key).2.is,why:=(getD s x.Tx x.Key).2.why}) (by rw [he,← zO0]) M rfl rfl rfl rfl rfl rfl rfl rfl rfl
 refine ⟨λhk=>?_,λk3=>?_⟩
 ·have he:doS s x=zFz s x.Tx x.Key x.To:=by unfold doS;rw [if_neg k1,if_neg k2,if_pos hk]
  refine z8 YZ ZH hX.at x.Tx rfl ?_
  refine z8 Zq zm hX.at x.Key rfl ?_
  refine z8 zGg zm hX.at x.To rfl ?_
  refine zPN h3 hI x.Tx x.Key x.To λr ρ' W hM g hO hρ=>?_
  have M:=mid hM g hO nod hρ nor
  refine ⟨_,W,Z9 _ _,?_⟩
  refine M.st zAw (slv r).1 (by show _<7;decide) (slv r).2 hwC hAC λW1 M=>?_
  refine ⟨_,W1,yM _ _,?_⟩
  refine M.st (off:=0) YT rfl (by show _<7;decide) rfl hwC hAC λW2 M=>?_
  exact fin (y:=⟨(zFz s x.Tx x.Key x.To).2.why,0,noB,false,r,Sl.none,0⟩) (a:={ans0 with pairs:=(zFz s x.Tx x.Key x.To).2.pairs,why:=(zFz s x.Tx x.Key x.To).2.why}) (by rw [he,← zNd]) M rfl rfl rfl rfl rfl rfl rfl rfl rfl
 refine ⟨λhk=>?_,λk4=>?_⟩
 ·have he:doS s x=zBb s x.Tx ⟨x.Key,x.Val,false⟩:=by unfold doS;rw [if_neg k1,if_neg k2,if_neg k3,if_pos hk]
  refine z8 YZ ZH hX.at x.Tx rfl ?_
  refine z8 Zq zm hX.at x.Key rfl ?_
  refine z8 zGQ zm hX.at x.Val rfl ?_
  refine zP8 h3 x.Tx x.Key x.Val λρ' W hM g=>?_
  have M:=mid hM g nop nod nor nor
  refine ⟨_,W,yM _ _,?_⟩
  refine M.st (off:=0) YT rfl (by show _<7;decide) rfl hwC hAC λW2 M=>?_
  exact fin (y:=⟨(zBb s x.Tx ⟨x.Key,x.Val,false⟩).2.why,0,noB,false,Sl.none,Sl.none,0⟩) (a:={ans0 with why:=(zBb s x.Tx ⟨x.Key,x.Val,false⟩).2.why}) (by rw [he,← zI2]) M rfl rfl rfl rfl rfl rfl rfl rfl rfl
 refine ⟨λhk=>?_,λk5=>?_⟩
 ·have he:doS s x=zBb s x.Tx ⟨x.Key,noB,true⟩:=by unfold doS;rw [if_neg k1,if_neg k2,if_neg k3,if_neg k4,if_pos hk]
  refine z8 YZ ZH hX.at x.Tx rfl ?_
  refine z8 Zq zm hX.at x.Key rfl ?_
  refine zMI h3 x.Tx x.Key λρ' W hM g=>?_
  have M:=mid hM g nop nod nor nor
  refine ⟨_,W,yM _ _,?_⟩
  refine M.st (off:=0) YT rfl (by show _<7;decide) rfl hwC hAC λW2 M=>?_
  exact fin (y:=⟨(zBb s x.Tx ⟨x.Key,noB,true⟩).2.why,0,noB,false,Sl.none,Sl.none,0⟩) (a:={ans0 with why:=(zBb s x.Tx ⟨x.Key,noB,true⟩).2.why}) (by rw [he,← zI2]) M rfl rfl rfl rfl rfl rfl rfl rfl rfl
 refine ⟨λhk=>?_,λk6=>?_⟩
 ·have he:doS s x=zA6 s x.Tx:=by unfold doS;rw [if_neg k1,if_neg k2,if_neg k3,if_neg k4,if_neg k5,if_pos hk]
  refine z8 YZ ZH hX.at x.Tx rfl ?_
  refine zL6 h3 hI hn x.Tx λr ρ' W hM g hO hρ=>?_
  have M:=mid hM g nop hO nor hρ
  refine ⟨_,W,zAL _ _,?_⟩
  refine M.st zAZ (slv r).1 (by show _<7;decide) (slv r).2 hwC hAC λW1 M=>?_
  refine ⟨_,W1,zB3 _ _,?_⟩
  refine M.st yA rfl (by show _<7;decide) rfl hwC hAC λW2 M=>?_
  refine ⟨_,W2,yM _ _,?_⟩
  refine M.st (off:=0) YT rfl (by show _<7;decide) rfl hwC hAC λW3 M=>?_
  exact fin (y:=⟨(zA6 s x.Tx).2.why,0,noB,false,Sl.none,r,(zA6 s x.Tx).2.time⟩) (a:={ans0 with done:=(zA6 s x.Tx).2.done,time:=(zA6 s x.Tx).2.time,why:=(zA6 s x.Tx).2.why}) (by rw [he,← zKn]) M rfl rfl rfl rfl rfl rfl rfl rfl rfl
 refine ⟨λhk=>?_,λk7=>?_⟩
 ·have he:doS s x=zFi s x.Tx:=by unfold doS;rw [if_neg k1,if_neg k2,if_neg k3,if_neg k4,if_neg k5,if_neg k6,if_pos hk]
  refine z8 YZ ZH hX.at x.Tx rfl ?_
  refine zNh h3 x.Tx λρ' W hM g=>?_
  have M:=mid hM g nop nod nor nor
  refine ⟨_,W,yM _ _,?_⟩
  refine M.st (off:=0) YT rfl (by show _<7;decide) rfl hwC hAC λW2 M=>?_
  exact fin (y:=⟨(zFi s x.Tx).2.why,0,noB,false,Sl.none,Sl.none,0⟩) (a:={ans0 with why:=(zFi s x.Tx).2.why}) (by rw [he,← zMF]) M rfl rfl rfl rfl rfl rfl rfl rfl rfl
 ·have he:doS s x=(s,errA 15):=by unfold doS;rw [if_neg k1,if_neg k2,if_neg k3,if_neg k4,if_neg k5,if_neg k6,if_neg k7]
  have M:=mid h3 (Ext.refl _ _) nop nod nor nor
  refine ⟨_,w3,yM _ _,?_⟩
  refine M.st (off:=0) YT rfl (by show _<7;decide) rfl hwC hAC λW2 M=>?_
  exact fin (y:=zAns) he M rfl rfl rfl rfl rfl rfl rfl rfl rfl
theorem Two.other {w W W':World} {ba bb:Nat} {sa sb:St} {ρa ρb:Own} (h:Two w ba bb sa sb ρa ρb W) {row:Option Nat} (hg:W.grownBy W' row) (hr:∀ q,row=some q->ρa q=none/\ρb q=none/\w.heap.size<=q):Two w ba bb sa sb ρa ρb W':=by
 have hk:∀ (ρ:Own),(∀ q,row=some q->ρ q=none)->∀ {b s},Mgr ρ W b s->Mgr ρ W' b s:=λρ hq b s ⟨vs,mb,g,m⟩=>⟨vs,mb,g,m.keep hg.size λk hk=>hg.block k (m.lt k hk) λe=>hk (hq k e.symm)⟩
 exact ⟨hk _ (λq e=>(hr q e).1) h.ma,hk _ (λq e=>(hr q e).2.1) h.mb,h.dis,h.bel.grown hg λq e=>(hr q e).2.2,h.la,h.lb⟩
abbrev zRW:zDS zA Zw Zd 3 zJ.cells zJ.v:=zDS.agg Q9 zBH (λ_=>rfl) (λ_=>rfl) (by decide)
abbrev zQT:zDS zA zq yC 4 zG.cells zG.v:=zDS.agg yH yN (λ_=>rfl) (λ_=>rfl) (by decide)
theorem zOo {w:World} {x0 x1:Sl} {l:List Pai} {steps:List z6} (h:zJb w x0 l) (h1:zRi w x1 steps):
  Cl zA zGz [Sl.v x0,Sl.v x1].toArray w (λe w'=>∃ r0:Bool,e=.returned (.bool r0)/\(r0=true/\Bel w w')):=by
 refine zG1 x0 x1 w (λb w'=>b=true/\Bel w w') ?_
 have hbig:=h1.big;have hcap:=h1.cap;have hlen:=h1.len
 unfold zCq
 refine zO2 w λw1 b1=>⟨λh=>(nomatch h),λ_=>?_⟩
 refine zO5 (h.bel b1) (λw2 he b2=>?_) λba ρa w2 he hI hv b2 ma hρa=>?_
 ·refine zO5 ((h.bel b1).bel b2) (λw3 he' b3=>zJE _ ⟨λ_=>?_,λh=>(nomatch h)⟩) λbb ρb w3 he'=>absurd he' he
  unfold ZF
  refine ⟨λ_=>⟨true,w3,by kernel_rfl,λ_=>?_,λh=>(nomatch h)⟩,λh=>(nomatch h)⟩
  exact ⟨decide_eq_true rfl,(b1.trans b2).trans b3⟩
 refine zO5 ((h.bel b1).bel b2) (λw3 he' b3=>absurd he he') λbb ρb w3 _ _ _ b3 mb hρb=>zJE _ ⟨λh=>(nomatch h),λ_=>zJE _ ?_⟩
 unfold ZF
 refine ⟨λh=>(nomatch h),λ_=>?_⟩
 have s1:=b1.le;have s2:=b2.le
 have two:Two w ba bb (newS l) (newS l) ρa ρb w3:=⟨ma.bel b3,mb,λk hk=>hρb k (ma.lt k hk),(b1.trans b2).trans b3,λk hk=>hρa k (by omega),λk hk=>hρb k (by omega)⟩
 refine ⟨λi W=>∃ (j:Nat) (ρa ρb:Own) (s:St),i=(j:Int)/\j<=steps.length/\Two w ba bb s s ρa ρb W/\Inv s/\s.now<=1+j/\s.given<=j,λi _=>(x1.len - i).toNat,
  ⟨0,ρa,ρb,_,rfl,by omega,two,hI,by show (1:Int)<=1+(0:Nat);decide,by show (0:Int)<=(0:Nat);decide⟩,?_⟩
 rintro i W ⟨j,ρa,ρb,s,rfl,hj,hT,hIs,hnow,hgiv⟩
 have hn1:s.now+1<=maxT:=by unfold maxT;omega
 have hgl:=hIs.good.len
 unfold zBC
 refine ⟨λhc=>?_,λhc=>?_⟩
 case refine_2=>
  obtain ⟨vs,mb',g,m⟩:=hT.ma
  refine zH8 m (by omega) λr W1 hO1 b4=>?_
  obtain ⟨vs',mb'',g',m'⟩:=(hT.more b4).mb
  refine zH8 m' (by omega) λr' W2 hO2 b5=>?_
  refine zPR (x0:=⟨r,s.low⟩) (x1:=⟨r',s.low⟩) (Y1.rd (hO1.bel b5)) (Y1.rd hO2) λc W3 hc b6=>?_
  exact ⟨hc.2 ⟨rfl,rfl⟩,((hT.bel.trans b4).trans b5).trans b6⟩
 obtain ⟨st,hst⟩:=getE (l:=steps) (n:=j) (by omega)
 refine zFd (h1.bel hT.bel) zJR zJT (by omega) (x:=st) (by simpa using hst) λad hA=>?_
 refine zBY zFY st rfl hA rfl ?_
 refine zCX zKO rfl zFY (cs:=st.cells) rfl rfl rfl λX W1 b5 hX hX0=>?_
 refine zBY zFY st rfl hX.at rfl ?_
 have hXn:=hT.new hX0
 have T1:=hT.more b5
 have s5:=b5.le
 refine zPk T1.ma hIs (by omega) (by omega) st λy1 ρ2 W2 hM2 hE2 hy1=>?_
 have T2:=T1.a hM2 hE2
 have hX2:=hX.keep (hE2.blk hX.lt hXn.1)
 have hρb1:∀ k,W1.heap.size<=k->ρb k=none:=λk hk=>(T1.new hk).2
 have s12:=hE2.out.size
 refine zCX zCk rfl Zz (cs:=y1.cells) rfl (zPq y1) rfl λY W3 b6 hY hY0=>?_
 have T3:=T2.more b6
 have hYn:=T2.new hY0
 have hX3:=hX2.bel b6
 refine ⟨λW=>Row W X st.cells zIW/\Row W Y y1.cells zAc,λW4 b7=>?_⟩
 have T4:=T3.more b7
 refine ⟨⟨hX3.bel b7,hY.bel b7⟩,?_⟩
 refine zKr Zz y1 rfl (λW hW=>hW.2.at) rfl ?_
 refine zKr zFY st rfl (λW hW=>hW.1.at) rfl ?_
 refine zRn T4.mb hIs (by omega) (by omega) st λy2 ρ5 W5 hM5 hE5 hy2=>?_
 have b67:=b6.trans b7
 have hX5:=(hX3.bel b7).keep (hE5.blk (hX3.bel b7).lt hXn.2)
 have hY5:=(hY.bel b7).keep (hE5.blk (hY.bel b7).lt hYn.2)
 refine ⟨⟨hX5,hY5⟩,?_⟩
 have T5:=T4.b hM5 hE5
 have keep5:∀ q,W1.heap.size<=q->q<W2.heap.size->W5.heap[q]?=W2.heap[q]?:=λq h1 h2=>by
  rw [hE5.blk (by have:=b67.le;omega) (hρb1 q h1),b67.block q h2]
 have p5:Z1 W1.heap.size W5 y1.Pairs (doS s st).2.pairs:=hy1.pairs.keep λq hq=>keep5 q (hy1.pairs.lo hq) (hy1.pairs.lt hq)
 have d5:zBn W1.heap.size W5 y1.Done (doS s st).2.done:=hy1.done.keep λq hq=>keep5 q (hy1.done.lo hq) (hy1.done.lt hq)
 have hs45:W4.heap.size<=W5.heap.size:=hE5.out.size
 have hrp:∀ q,(Sl.v y1.Pairs).ownBlock=some q->ρ2 q=none/\ρ5 q=none/\w.heap.size<=q:=λq hq=>by
  have h2:=hy1.pairs.lo hq;have h3:=hy1.pairs.lt hq;have h4:=b67.le;have h5:=hT.bel.le
  exact ⟨hy1.rp q hq,(hE5.same q (by omega)).trans (hρb1 q h2),by omega⟩
 have hrd:∀ q,(Sl.v y1.Done).ownBlock=some q->ρ2 q=none/\ρ5 q=none/\w.heap.size<=q:=λq hq=>by
  have h2:=hy1.done.lo hq;have h3:=hy1.done.lt hq;have h4:=b67.le;have h5:=hT.bel.le
  exact ⟨hy1.rd q hq,(hE5.same q (by omega)).trans (hρb1 q h2),by omega⟩
 have r1:zHq W5 y1 (doS s st).2:=⟨hy1.why,hy1.tx,hy1.val,hy1.is,Z1.rd p5,zBn.rd d5,hy1.time⟩
 refine zO6 r1 hy2.ans λr W6 hr b8=>?_
 have hr1:r=true:=hr.2 rfl
 refine ⟨⟨hX5.bel b8,hY5.bel b8⟩,λh=>?_,λ_=>?_⟩
 ·rw [hr1] at h;cases h
 have T6:=T5.more b8
 have hY6:=hY5.bel b8
 have p6:=p5.bel b8
 have d6:=d5.bel b8
 have heff:=zPn hIs hn1 st
 have hnn:=zPm heff
 have hI':=zPu hIs hn1 heff
 generalize (doS s st).1=s' at T6 heff hnn hI'
 generalize (doS s st).2.pairs=ps at p6
 generalize (doS s st).2.done=ds at d6
 clear r1 p5 d5 hr T5 hM5 hM2 T2 T3 T4 hy1 hy2 heff
 refine z8 Z9 zAw hY6.at y1.Pairs rfl ?_
 have pl:=p6.len;have dl:=d6.len;have pbig:=p6.small;have dbig:=d6.small
 refine ⟨λi W=>∃ (n:Nat) (ps':List Pai),i=(n:Int)/\n<=ps.length/\Two w ba bb s' s' ρ2 ρ5 W/\Row W Y y1.cells zAc/\Z1 W1.heap.size W y1.Pairs ps'/\ps'.length=ps.length/\zBn W1.heap.size W y1.Done ds,λi _=>(y1.Pairs.len - i).toNat,
  ⟨0,ps,rfl,by omega,T6,hY6,p6,rfl,d6⟩,?_⟩
 rintro i W7 ⟨n,ps',rfl,hn,T7,hY7,p7,pl7,d7⟩
 unfold zAr
 refine ⟨λhc=>?_,λhc=>?_⟩
 ·refine z8 Z9 zAw hY7.at y1.Pairs rfl ?_
  refine ⟨⟨noB,noB⟩,W7,by kernel_rfl,?_⟩
  refine zKA zPy p7 (i:=n) (by omega) ⟨noB,noB⟩ λW8 p8 g8=>?_
  rw [wr64 (by omega) (by omega)]
  exact ⟨⟨n+1,_,by omega,by omega,T7.other g8 hrp,hY7.grown g8 (OwnS.ne_row p7 hY7 (by decide)),p8,by rw [List.length_set];exact pl7,d7.kept g8 (d7.ne_own p7 (by decide))⟩,by dsimp only;omega⟩
 refine z8 zAL zAZ hY7.at y1.Done rfl ?_
 refine ⟨λi W=>∃ (n:Nat) (ds':List Wri),i=(n:Int)/\n<=ds.length/\Two w ba bb s' s' ρ2 ρ5 W/\Row W Y y1.cells zAc/\zBn W1.heap.size W y1.Done ds'/\ds'.length=ds.length,λi _=>(y1.Done.len - i).toNat,
  ⟨0,ds,rfl,by omega,T7,hY7,d7,rfl⟩,?_⟩
 rintro i W8 ⟨n,ds',rfl,hn,T8,hY8,d8,dl8⟩
 unfold zAy
 refine ⟨λhc=>?_,λhc=>?_⟩
 ·refine z8 zAL zAZ hY8.at y1.Done rfl ?_
  refine ⟨zKD,W8,by kernel_rfl,?_⟩
  refine zKA zRW d8 (i:=n) (by omega) zKD λW9 d9 g9=>?_
  rw [wr64 (by omega) (by omega)]
  exact ⟨⟨n+1,_,by omega,by omega,T8.other g9 hrd,hY8.grown g9 (OwnS.ne_row d8 hY8 (by decide)),d9,by rw [List.length_set];exact dl8⟩,by dsimp only;omega⟩
 obtain ⟨vs,mb',g,m⟩:=T8.ma
 have hgl':=hI'.good.len
 refine zH8 m (by omega) λvr W9 hO9 b9=>?_
 have T9:=T8.more b9
 refine zCX ZT rfl z9 (cs:=[Sl.v vr,.int .u64 s'.low]) rfl (by cases vr with|mk a l c=>cases a<;>rfl) rfl λZ W10 b10 hZ hZ0=>?_
 have T10:=T9.more b10
 have hO10:=hO9.bel b10
 refine z8 zn zp hZ.at vr rfl ?_
 have vl:=hO10.len;have vbig:=hO10.small
 have hrv:∀ q,(Sl.v vr).ownBlock=some q->ρ2 q=none/\ρ5 q=none/\w.heap.size<=q:=λq hq=>by
  have h2:=hO10.lo hq
  obtain ⟨h3,h4⟩:=T8.new h2
  have:=T8.bel.le
  exact ⟨h3,h4,by omega⟩
 refine ⟨λi W=>∃ (n:Nat) (vs':List Ver),i=(n:Int)/\n<=s'.l.length/\Two w ba bb s' s' ρ2 ρ5 W/\Row W Z [Sl.v vr,.int .u64 s'.low] z5/\Y1 W8.heap.size W vr vs'/\vs'.length=s'.l.length,λi _=>(vr.len - i).toNat,
  ⟨0,s'.l,rfl,by omega,T10,hZ,hO10,rfl⟩,?_⟩
 rintro i W11 ⟨n,vs',rfl,hn,T11,hZ11,v11,vl11⟩
 unfold zA8
 refine ⟨λhc=>?_,λhc=>?_⟩
 ·refine z8 zn zp hZ11.at vr rfl ?_
  refine ⟨zMD,W11,by kernel_rfl,?_⟩
  refine zKA zQT v11 (i:=n) (by omega) zMD λW12 v12 g12=>?_
  rw [wr64 (by omega) (by omega)]
  exact ⟨⟨n+1,_,by omega,by omega,T11.other g12 hrv,hZ11.grown g12 (OwnS.ne_row v11 hZ11 (by decide)),v12,by rw [List.length_set];exact vl11⟩,by dsimp only;omega⟩
 rw [wr64 (by omega) (by omega)]
 exact ⟨⟨j+1,ρ2,ρ5,s',by omega,by omega,T11,hI',by omega,by omega⟩,by dsimp only;omega⟩
end Go.Proofs.YtealcoghiaeiiaaGreat.VG
