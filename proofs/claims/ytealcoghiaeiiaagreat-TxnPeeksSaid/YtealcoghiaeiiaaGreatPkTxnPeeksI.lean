/- Texts by which the law's calls are walked (part 9): rules, printed conditions, contracts; no condition. -/
import Derived.TacticsIn
import Derived.TacticsInMore
import Derived.Deep.LoopGhost
import Derived.Sort.QuietThIn
import Derived.RangeFuncCalls
import Derived.RangeFuncNested
import Derived.RangeFuncLeaves
import Derived.WalkKit
import Derived.StillTail
import Derived.Test.YtealcoghiaeiiaaGreatProg
import Derived.KernelRfl
import Derived.Deep.WholeRow
import Derived.Laws.StructEq
import Derived.MapFrom
import Derived.Laws.CopyRow
import Derived.Maps.RangeRun
import Derived.Sort.Walk0
import Derived.RangeFuncBound
import Derived.Test.YtealcoghiaeiiaaGreatPkTxnPeeksH
open Go.Proofs.Tryz renaming prog → zA
open Go.IntKind renaming wrap → zB
open Go.Value renaming pointer → zC, int → zU, string → za, bool → xh
open Go.Instr renaming loadAt → zD, storeAt → zJ, indexAt → zF, fieldAt → zN, alloc → zh, build → QO, buildSlice → zr
open Nat renaming le_refl → zV, le_trans → zl, lt_of_lt_of_le → QR
open List renaming length_append → yO
set_option linter.unusedVariables false
set_option linter.unusedSimpArgs false
namespace Go.Proofs.YtealcoghiaeiiaaGreat.VG
open Go.VB Go.Proofs Go.RowKit
theorem zGA {s:St} {n:Int} {f:Tx->St × Ans} (h:s.tx n=none):onTx s n f=(s,errA 11):=by unfold onTx;rw [h]
theorem zBW {s:St} {n:Int} {f:Tx->St × Ans} {t:Tx} (h:s.tx n=some t):onTx s n f=f t:=by unfold onTx;rw [h]
theorem Ext.new {ρ ρ':Own} {w W w':World} {B:Nat} (h:Ext ρ w ρ' W) (hg:W.grownBy w' (some B)) (hB:w.heap.size<=B):Ext ρ w ρ' w':=
 ⟨h.out.trans (T:=λk=>k=B) (Out.row hg λk hk=>by cases hk;exact .inl rfl) λi hi e=>by omega,h.same⟩
theorem Mgr.other {ρ:Own} {w w':World} {b:Nat} {s:St} {B:Nat} (h:Mgr ρ w b s) (hg:w.grownBy w' (some B)) (hB:ρ B=none):Mgr ρ w' b s:=
 let ⟨vs,mb,g,m⟩:=h
 ⟨vs,mb,g,m.keep hg.size λk hk=>hg.block k (m.lt k hk) λe=>by cases e;exact hk hB⟩
section
variable {ρ:Own} {w:World} {b:Nat} {s:St}
theorem zPk (h:Mgr ρ w b s) (hI:Inv s) (hg:s.given<4611686018427387904) {k:Int->Int->World->Prop} (H:∀ ρ' w',Mgr ρ' w' b (zDS s).1->Ext ρ w ρ' w'->k (zDS s).2.tx (zDS s).2.why w'):
  Cl zA zFp [.pointer (ptrA b)].toArray w (λe w'=>∃ (r0 r1:Int),e=.returned (.tuple [.int .i64 r0,.int .i64 r1].toArray)/\k r0 r1 w'):=by
 refine zJz h hI.giv hg hI.free (λks hd hl=>?_) λks ρ' w' hd hl hM hE=>?_
 ·have e:zDS s=(s,errA 3):=by unfold zDS;rw [zJM hd,if_pos hl]
  rw [e] at H;exact H ρ w h (Ext.refl _ _)
 ·have e:zDS s=(zGS s,{ans0 with tx:=s.given+1}):=by unfold zDS;rw [zJM hd,if_neg (by omega)]
  rw [e] at H;exact H ρ' w' hM hE
theorem zQo (h:Mgr ρ w b s) (n:Int) (key:ByteArray) {k:ByteArray->Bool->Int->World->Prop} (H:∀ ρ' w',Mgr ρ' w' b (getD s n key).1->Ext ρ w ρ' w'->k (getD s n key).2.val (getD s n key).2.is (getD s n key).2.why w'):
  Cl zA zGF [.pointer (ptrA b),.int .i64 n,.string key].toArray w (λe w'=>∃ (r0:ByteArray) (r1:Bool) (r2:Int),e=.returned (.tuple [.string r0,.bool r1,.int .i64 r2].toArray)/\k r0 r1 r2 w'):=by
 unfold getD at H
 refine zMq h n key (λht=>?_) (λt ht h1=>?_) (λt ht h1 h2=>?_) λt ρ' w' ht h1 h2 hM hE=>?_
 ·rw [zGA ht] at H;exact H ρ w h (Ext.refl _ _)
 ·rw [zBW ht] at H;unfold getT at H;rw [if_pos h1] at H;exact H ρ w h (Ext.refl _ _)
 ·rw [zBW ht] at H;unfold getT at H;rw [if_neg h1,if_pos h2] at H;exact H ρ w h (Ext.refl _ _)
 ·rw [zBW ht] at H;unfold getT at H;rw [if_neg h1,if_neg (by omega)] at H;exact H ρ' w' hM hE
theorem zQE (h:Mgr ρ w b s) (hI:Inv s) (n:Int) (fr to:ByteArray) {k:Sl->Int->World->Prop}
  (H:∀ r ρ' w',Mgr ρ' w' b (zGu s n fr to).1->Ext ρ w ρ' w'->zAk w.heap.size w' r (zGu s n fr to).2.pairs->(∀ q,(Sl.v r).ownBlock=some q->ρ' q=none)->k r (zGu s n fr to).2.why w'):
  Cl zA zF4 [.pointer (ptrA b),.int .i64 n,.string fr,.string to].toArray w (λe w'=>∃ (r0:Sl) (r1:Int),e=.returned (.tuple [Sl.v r0,.int .i64 r1].toArray)/\k r0 r1 w'):=by
 unfold zGu at H
 refine zPf h hI n fr to (λht w' hb=>?_) (λt ht h1 w' hb=>?_) λt r ys ρ' w' ht h1 hS hO hρ hM hE=>?_
 ·rw [zGA ht] at H;exact H Sl.none ρ w' (h.bel hb) (Ext.bel hb) (OwnS.nil _ _ _ _ _) λq e=>by cases e
 ·rw [zBW ht] at H;unfold zMO at H;rw [if_pos h1] at H;exact H Sl.none ρ w' (h.bel hb) (Ext.bel hb) (OwnS.nil _ _ _ _ _) λq e=>by cases e
 ·rw [zBW ht] at H;unfold zMO at H;rw [if_neg (by omega),zMh hS] at H;exact H r ρ' w' hM hE hO hρ
theorem zNL (h:Mgr ρ w b s) (n:Int) (x:Wri) {k:Int->World->Prop} (H:∀ ρ' w',Mgr ρ' w' b (zCV s n x).1->Ext ρ w ρ' w'->k (zCV s n x).2.why w'):
  Cl zA zB9 [.pointer (ptrA b),.int .i64 n,zI.v x].toArray w (λe w'=>∃ r0:Int,e=.returned (.int .i64 r0)/\k r0 w'):=by
 unfold zCV at H
 refine zJr h n x (λht w' hb=>?_) (λt ht h1 w' hb=>?_) (λt ks ht h1 h2 hd h3 w' hb=>?_) λt w' ht h1 h2 hM hE=>?_
 ·rw [zGA ht] at H;exact H ρ w' (h.bel hb) (Ext.bel hb)
 ·rw [zBW ht] at H;unfold zJN at H;rw [if_pos h1] at H;exact H ρ w' (h.bel hb) (Ext.bel hb)
 ·rw [zBW ht] at H;unfold zJN at H;rw [if_neg h1,if_pos ⟨h2,by rw [zJM hd];exact h3⟩] at H;exact H ρ w' (h.bel hb) (Ext.bel hb)
 ·rw [zBW ht] at H;unfold zJN at H
  rw [if_neg h1,if_neg λh3=>by obtain ⟨ks,hd,hl⟩:=h2 h3.1;have:=h3.2;rw [zJM hd] at this;omega] at H
  exact H ρ w' hM hE
theorem zQu (h:Mgr ρ w b s) (n:Int) (key val:ByteArray) {k:Int->World->Prop} (H:∀ ρ' w',Mgr ρ' w' b (zCV s n ⟨key,val,false⟩).1->Ext ρ w ρ' w'->k (zCV s n ⟨key,val,false⟩).2.why w'):
  Cl zA zGO [.pointer (ptrA b),.int .i64 n,.string key,.string val].toArray w (λe w'=>∃ r0:Int,e=.returned (.int .i64 r0)/\k r0 w'):=zMv n key val (zNL h n _ H)
theorem zOV (h:Mgr ρ w b s) (n:Int) (key:ByteArray) {k:Int->World->Prop} (H:∀ ρ' w',Mgr ρ' w' b (zCV s n ⟨key,noB,true⟩).1->Ext ρ w ρ' w'->k (zCV s n ⟨key,noB,true⟩).2.why w'):
  Cl zA zFV [.pointer (ptrA b),.int .i64 n,.string key].toArray w (λe w'=>∃ r0:Int,e=.returned (.int .i64 r0)/\k r0 w'):=zNl n key (zNL h n _ H)
theorem zPF (h:Mgr ρ w b s) (n:Int) {k:Int->World->Prop} (H:∀ ρ' w',Mgr ρ' w' b (zGe s n).1->Ext ρ w ρ' w'->k (zGe s n).2.why w'):
  Cl zA zFq [.pointer (ptrA b),.int .i64 n].toArray w (λe w'=>∃ r0:Int,e=.returned (.int .i64 r0)/\k r0 w'):=by
 unfold zGe at H
 refine zOU h n (λht=>?_) λt ρ' w' ht hM hE=>?_
 ·rw [zGA ht] at H;exact H ρ w h (Ext.refl _ _)
 ·rw [zBW ht] at H;exact H ρ' w' hM hE
theorem zL2 (h:Mgr ρ w b s) (hI:Inv s) (hn:s.now<4611686018427387904) (n:Int) {k:Sl->Int->Int->World->Prop}
  (H:∀ r ρ' w',Mgr ρ' w' b (zAO s n).1->Ext ρ w ρ' w'->zBw w.heap.size w' r (zAO s n).2.done->(∀ q,(Sl.v r).ownBlock=some q->ρ' q=none)->k r (zAO s n).2.time (zAO s n).2.why w'):
  Cl zA zFa [.pointer (ptrA b),.int .i64 n].toArray w (λe w'=>∃ (r0:Sl) (r1:Int) (r2:Int),e=.returned (.tuple [Sl.v r0,.int .u64 r1,.int .i64 r2].toArray)/\k r0 r1 r2 w'):=by
 unfold zAO at H
 have h0:=hI.lo;have h1:=hI.lonow
 have nob:∀ {w':World},zBw w.heap.size w' Sl.none []:=OwnS.nil _ _ _ _ _
 have nor:∀ {ρ':Own} q,(Sl.v Sl.none).ownBlock=some q->ρ' q=none:=λq e=>by cases e
 refine zI9 h n (λt ht=>⟨(hI.txok n t ht).few,(hI.txok n t ht).keyed⟩) (by omega) hn (λht=>?_) (λt ρ' w' ht hc hM hE=>?_) (λt ρ' w' ht hc he hM hE=>?_) (λt ys ρ' w' ht hc hS he hp hM hE=>?_) λt ys r ρ' w' ht hc hS he hp hM hE hr hq=>?_
 ·rw [zGA ht] at H;exact H Sl.none ρ w h (Ext.refl _ _) nob nor
 ·rw [zBW ht] at H;unfold zGa at H;rw [if_pos hc] at H;exact H Sl.none ρ' w' hM hE nob nor
 ·rw [zBW ht] at H;unfold zGa at H;rw [if_neg (by simp [hc]),if_pos he] at H;exact H Sl.none ρ' w' hM hE nob nor
 ·rw [zBW ht] at H;unfold zGa at H
  rw [if_neg (by simp [hc]),if_neg (λh=>by obtain ⟨x,hx⟩:=he;exact hx (h x)),zGB hS,if_pos hp] at H
  exact H Sl.none ρ' w' hM hE nob nor
 ·rw [zBW ht] at H;unfold zGa at H
  rw [if_neg (by simp [hc]),if_neg (λh=>by obtain ⟨x,hx⟩:=he;exact hx (h x)),zGB hS,if_neg (by simp [hp])] at H
  exact H r ρ' w' hM hE hr λq h=>(hq q h).2.2
end
structure zJJ (base:Nat) (ρ:Own) (w:World) (y:zc) (a:Ans):Prop where
 why:y.Why=a.why
 tx:y.Tx=a.tx
 val:y.Val=a.val
 is:y.Is=a.is
 pairs:zAk base w y.Pairs a.pairs
 done:zBw base w y.Done a.done
 time:y.Time=a.time
 rp:∀ q,(Sl.v y.Pairs).ownBlock=some q->ρ q=none
 rd:∀ q,(Sl.v y.Done).ownBlock=some q->ρ q=none
theorem zJJ.ans {base:Nat} {ρ:Own} {w:World} {y:zc} {a:Ans} (h:zJJ base ρ w y a):zHx w y a:=⟨h.why,h.tx,h.val,h.is,zAk.rd h.pairs,zBw.rd h.done,h.time⟩
abbrev zAns:zc:=⟨15,0,noB,false,Sl.none,Sl.none,0⟩
structure Mid (ρ:Own) (w:World) (b A C:Nat) (s':St) (p:Sl) (ps:List Pai) (d:Sl) (ds:List Wri) (ρ':Own) (W:World) (cs:List Value):Prop where
 mgr:Mgr ρ' W b s'
 ext:Ext ρ w ρ' W
 rA:ρ' A=none
 rC:ρ' C=none
 a:∃ z:List Value,z.length=7/\Row W A z zEt
 c:Row W C cs zEt
 pr:zAk w.heap.size W p ps
 dn:zBw w.heap.size W d ds
 rp:∀ q,(Sl.v p).ownBlock=some q->ρ' q=none
 rd:∀ q,(Sl.v d).ownBlock=some q->ρ' q=none
theorem Mid.st {ρ:Own} {w:World} {b A C:Nat} {s':St} {p:Sl} {ps:List Pai} {d:Sl} {ds:List Wri} {ρ':Own} {W:World} {cs:List Value} (h:Mid ρ w b A C s' p ps d ds ρ' W cs) {t:Nat} (hA:One zA t) {off:Nat} {v:Value}
  (hv:v.cells.toList=[v]) (hl:off<cs.length) (h1:v.oneCell'=true) (hC:w.heap.size<=C) (hAC:A≠C) {k:World->Prop} (H:∀ W',Mid ρ w b A C s' p ps d ds ρ' W' (cs.take off++[v]++cs.drop (off+1))->k W'):
  opU zA (zJ t (.pointer (some ((⟨C,0,none⟩:Addr).add off))) v) W k:=by
 refine zH1 hA h.c hv hl h1 λW' hR hg=>H W' ?_
 obtain ⟨z,hz,ha⟩:=h.a
 exact {h with
  mgr:=h.mgr.other hg h.rC
  ext:=h.ext.new hg hC
  a:=⟨z,hz,ha.grown hg (by simpa using hAC.symm)⟩
  c:=hR
  pr:=h.pr.kept hg (.inr (OwnS.ne_row h.pr h.c (by decide)))
  dn:=h.dn.kept hg (.inr (OwnS.ne_row h.dn h.c (by decide)))}
theorem zOk (s:St):(zDS s).2={ans0 with tx:=(zDS s).2.tx,why:=(zDS s).2.why}:=by unfold zDS;split<;>rfl
theorem zQD (s:St) (n:Int) (key:ByteArray):(getD s n key).2={ans0 with val:=(getD s n key).2.val,is:=(getD s n key).2.is,why:=(getD s n key).2.why}:=by
 unfold getD onTx
 cases s.tx n with
 |none=>rfl
 |some t=>simp only;unfold getT;split<;>(try split)<;>rfl
theorem zPg (s:St) (n:Int) (fr to:ByteArray):(zGu s n fr to).2={ans0 with pairs:=(zGu s n fr to).2.pairs,why:=(zGu s n fr to).2.why}:=by
 unfold zGu onTx
 cases s.tx n with
 |none=>rfl
 |some t=>simp only;unfold zMO;split<;>rfl
theorem zLw (s:St) (n:Int) (x:Wri):(zCV s n x).2={ans0 with why:=(zCV s n x).2.why}:=by
 unfold zCV onTx
 cases s.tx n with
 |none=>rfl
 |some t=>simp only;unfold zJN;split<;>(try split)<;>rfl
theorem zNW (s:St) (n:Int):(zAO s n).2={ans0 with done:=(zAO s n).2.done,time:=(zAO s n).2.time,why:=(zAO s n).2.why}:=by
 unfold zAO onTx
 cases s.tx n with
 |none=>rfl
 |some t=>simp only;unfold zGa;split<;>(try split)<;>(try split)<;>rfl
theorem zOI (s:St) (n:Int):(zGe s n).2={ans0 with why:=(zGe s n).2.why}:=by
 unfold zGe onTx
 cases s.tx n<;>rfl
theorem zP6 {ρ:Own} {w:World} {b:Nat} {s:St} (h:Mgr ρ w b s) (hI:Inv s) (hn:s.now<4611686018427387904) (hg:s.given<4611686018427387904) (x:yK) {k:zc->World->Prop}
  (H:∀ y ρ' w',Mgr ρ' w' b (doS s x).1->Ext ρ w ρ' w'->zJJ w.heap.size ρ' w' y (doS s x).2->k y w'):
  Cl zA zIr [.pointer (ptrA b),yK.v x].toArray w (λe w'=>∃ r0:zc,e=.returned (zc.v r0)/\k r0 w'):=by
 refine zIc (ptrA b) x w k ?_
 unfold zFc
 refine zAb (cs:=x.cells) rfl λX w1 b1 hX hX0=>?_
 refine zEv zGv λA w2 b2 hA hA0=>?_
 refine ⟨zAns,w2,by kernel_rfl,?_⟩
 refine zCs zGv rfl zD9 (cs:=zAns.cells) rfl rfl rfl λC w3 b3 hC hC0=>?_
 have b13:=b2.trans b3
 have b03:=b1.trans b13
 replace hX:=hX.bel b13
 have hA2:=hA.lt
 replace hA:=hA.bel b3
 have s1:=b1.le;have s2:=b2.le
 have hlt:=h.lt
 have hnone:∀ q,w.heap.size<=q->ρ q=none:=λq hq=>by
  cases hρ:ρ q with
  |none=>rfl
  |some r=>have:=hlt q (by rw [hρ];simp);omega
 have h3:=h.bel b03
 have hXl:=hX.lt;have hAl:=hA.lt;have hCl:=hC.lt
 have hAC:A≠C:=by omega
 refine zJ3 _ ⟨λh=>(nomatch h),λ_=>?_⟩
 have J1:∀ W (y:zc) ρ',Ext ρ w ρ' W->ρ' A=none->Mgr ρ' W b (doS s x).1->(∃ z:List Value,z.length=7/\Row W A z zEt)->Row W C y.cells zEt->zJJ w.heap.size ρ' W y (doS s x).2->y9 k (ptrA A) (ptrA C) W:=by
  rintro W y ρ' g hρA hM ⟨z,hz,hAW⟩ hCW hy
  unfold y9
  refine zBb zD9 y rfl hCW.at rfl ?_
  have hone:y.cells.all (·.oneCell')=true:=by
   obtain ⟨a1,a2,a3,a4,⟨a5,a51,a52⟩,⟨a6,a61,a62⟩,a7⟩:=y
   cases a5<;>cases a6<;>rfl
  refine zHZ zD9 hAW hz rfl hone λw5 hA5 g5=>?_
  refine R.agg zD9 y rfl hA5.at rfl (H y ρ' w5 (hM.other g5 hρA) (g.new g5 (by omega)) ?_)
  have hp:(Sl.v y.Pairs).ownBlock≠some A:=OwnS.ne_row hy.pairs hAW (by decide)
  have hd:(Sl.v y.Done).ownBlock≠some A:=OwnS.ne_row hy.done hAW (by decide)
  exact {hy with pairs:=hy.pairs.kept g5 (.inr hp),done:=hy.done.kept g5 (.inr hd)}
 have mid:∀ {ρ' W s' p ps d ds},Mgr ρ' W b s'->Ext ρ w3 ρ' W->zAk w3.heap.size W p ps->zBw w3.heap.size W d ds->(∀ q,(Sl.v p).ownBlock=some q->ρ' q=none)->(∀ q,(Sl.v d).ownBlock=some q->ρ' q=none)->Mid ρ w b A C s' p ps d ds ρ' W zAns.cells:=by
  intro ρ' W s' p ps d ds hM g hp hd hrp hrd
  have s03:=b03.le
  exact {
   mgr:=hM
   ext:=(Ext.bel b03).trans g
   rA:=(g.same A hAl).trans (hnone A (by omega))
   rC:=(g.same C hCl).trans (hnone C (by omega))
   a:=⟨_,rfl,hA.keep (g.blk hAl (hnone A (by omega)))⟩
   c:=hC.keep (g.blk hCl (hnone C (by omega)))
   pr:=hp.low s03
   dn:=hd.low s03
   rp:=hrp
   rd:=hrd}
 have nop:∀ {W},zAk w3.heap.size W Sl.none []:=OwnS.nil _ _ _ _ _
 have nod:∀ {W},zBw w3.heap.size W Sl.none []:=OwnS.nil _ _ _ _ _
 have nor:∀ {ρ':Own} q,(Sl.v Sl.none).ownBlock=some q->ρ' q=none:=λq e=>by cases e
 have hwC:w.heap.size<=C:=by omega
 have fin:∀ {ρ' W s' p ps d ds} {y:zc} {a:Ans},doS s x=(s',a)->Mid ρ w b A C s' p ps d ds ρ' W y.cells->y.Why=a.why->y.Tx=a.tx->y.Val=a.val->y.Is=a.is->y.Pairs=p->a.pairs=ps->y.Done=d->a.done=ds->y.Time=a.time->y9 k (ptrA A) (ptrA C) W:=by
  intro ρ' W s' p ps d ds y a he M e1 e2 e3 e4 e5 e6 e7 e8 e9
  refine J1 W y ρ' M.ext M.rA (by rw [he];exact M.mgr) M.a M.c ?_
  rw [he]
  subst e5;subst e6;subst e7;subst e8
  exact ⟨e1,e2,e3,e4,M.pr,M.dn,e9,M.rp,M.rd⟩
 have slv:∀ z:Sl,(Sl.v z).cells.toList=[Sl.v z]/\(Sl.v z).oneCell'=true:=λz=>by cases z with|mk a l c=>cases a<;>exact ⟨rfl,rfl⟩
 refine yJ Z4 zBm hX.at x.Kind rfl ⟨λhk=>?_,λk1=>?_⟩
 ·have he:doS s x=zDS s:=by unfold doS;rw [if_pos hk]
  refine zPk h3 hI hg λρ' W hM g=>?_
  have M:=mid hM g nop nod nor nor
  refine ⟨_,W,zEP _ _,?_⟩
  refine M.st zAN rfl (by show _<7;decide) rfl hwC hAC λW1 M=>?_
  refine ⟨_,W1,Yo _ _,?_⟩
  refine M.st (off:=0) zBK rfl (by show _<7;decide) rfl hwC hAC λW2 M=>?_
  exact fin (y:=⟨(zDS s).2.why,(zDS s).2.tx,noB,false,Sl.none,Sl.none,0⟩) (a:={ans0 with tx:=(zDS s).2.tx,why:=(zDS s).2.why}) (by rw [he,← zOk]) M rfl rfl rfl rfl rfl rfl rfl rfl rfl
 refine yJ Z4 zBm hX.at x.Kind rfl ⟨λhk=>?_,λk2=>?_⟩
 ·have he:doS s x=getD s x.Tx x.Key:=by unfold doS;rw [if_neg k1,if_pos hk]
  refine yJ zA0 zAN hX.at x.Tx rfl ?_
  refine yJ zCo zp hX.at x.Key rfl ?_
  refine zQo h3 x.Tx x.Key λρ' W hM g=>?_
  have M:=mid hM g nop nod nor nor
  refine ⟨_,W,zDj _ _,?_⟩
  refine M.st zp rfl (by show _<7;decide) rfl hwC hAC λW1 M=>?_
  refine ⟨_,W1,zEQ _ _,?_⟩
  refine M.st zC1 rfl (by show _<7;decide) rfl hwC hAC λW2 M=>?_
  refine ⟨_,W2,Yo _ _,?_⟩
  refine M.st (off:=0) zBK rfl (by show _<7;decide) rfl hwC hAC λW3 M=>?_
  exact fin (y:=⟨(getD s x.Tx x.Key).2.why,0,(getD s x.Tx x.Key).2.val,(getD s x.Tx x.Key).2.is,Sl.none,Sl.none,0⟩) (a:={ans0 with val:=(getD s x.Tx x.Key).2.val,is:=(getD s x.Tx x.Key).2.is,why:=(getD s x.Tx x.Key).2.why}) (by rw [he,← zQD]) M rfl rfl rfl rfl rfl rfl rfl rfl rfl
 refine yJ Z4 zBm hX.at x.Kind rfl ⟨λhk=>?_,λk3=>?_⟩
 ·have he:doS s x=zGu s x.Tx x.Key x.To:=by unfold doS;rw [if_neg k1,if_neg k2,if_pos hk]
  refine yJ zA0 zAN hX.at x.Tx rfl ?_
  refine yJ zCo zp hX.at x.Key rfl ?_
  refine yJ zId zp hX.at x.To rfl ?_
  refine zQE h3 hI x.Tx x.Key x.To λr ρ' W hM g hO hρ=>?_
  have M:=mid hM g hO nod hρ nor
  refine ⟨_,W,zCd _ _,?_⟩
  refine M.st zCP (slv r).1 (by show _<7;decide) (slv r).2 hwC hAC λW1 M=>?_
  refine ⟨_,W1,Yo _ _,?_⟩
  refine M.st (off:=0) zBK rfl (by show _<7;decide) rfl hwC hAC λW2 M=>?_
  exact fin (y:=⟨(zGu s x.Tx x.Key x.To).2.why,0,noB,false,r,Sl.none,0⟩) (a:={ans0 with pairs:=(zGu s x.Tx x.Key x.To).2.pairs,why:=(zGu s x.Tx x.Key x.To).2.why}) (by rw [he,← zPg]) M rfl rfl rfl rfl rfl rfl rfl rfl rfl
 refine yJ Z4 zBm hX.at x.Kind rfl ⟨λhk=>?_,λk4=>?_⟩
 ·have he:doS s x=zCV s x.Tx ⟨x.Key,x.Val,false⟩:=by unfold doS;rw [if_neg k1,if_neg k2,if_neg k3,if_pos hk]
  refine yJ zA0 zAN hX.at x.Tx rfl ?_
  refine yJ zCo zp hX.at x.Key rfl ?_
  refine yJ zIU zp hX.at x.Val rfl ?_
  refine zQu h3 x.Tx x.Key x.Val λρ' W hM g=>?_
  have M:=mid hM g nop nod nor nor
  refine ⟨_,W,Yo _ _,?_⟩
  refine M.st (off:=0) zBK rfl (by show _<7;decide) rfl hwC hAC λW2 M=>?_
  exact fin (y:=⟨(zCV s x.Tx ⟨x.Key,x.Val,false⟩).2.why,0,noB,false,Sl.none,Sl.none,0⟩) (a:={ans0 with why:=(zCV s x.Tx ⟨x.Key,x.Val,false⟩).2.why}) (by rw [he,← zLw]) M rfl rfl rfl rfl rfl rfl rfl rfl rfl
 refine yJ Z4 zBm hX.at x.Kind rfl ⟨λhk=>?_,λk5=>?_⟩
 ·have he:doS s x=zCV s x.Tx ⟨x.Key,noB,true⟩:=by unfold doS;rw [if_neg k1,if_neg k2,if_neg k3,if_neg k4,if_pos hk]
  refine yJ zA0 zAN hX.at x.Tx rfl ?_
  refine yJ zCo zp hX.at x.Key rfl ?_
  refine zOV h3 x.Tx x.Key λρ' W hM g=>?_
  have M:=mid hM g nop nod nor nor
  refine ⟨_,W,Yo _ _,?_⟩
  refine M.st (off:=0) zBK rfl (by show _<7;decide) rfl hwC hAC λW2 M=>?_
  exact fin (y:=⟨(zCV s x.Tx ⟨x.Key,noB,true⟩).2.why,0,noB,false,Sl.none,Sl.none,0⟩) (a:={ans0 with why:=(zCV s x.Tx ⟨x.Key,noB,true⟩).2.why}) (by rw [he,← zLw]) M rfl rfl rfl rfl rfl rfl rfl rfl rfl
 refine yJ Z4 zBm hX.at x.Kind rfl ⟨λhk=>?_,λk6=>?_⟩
 ·have he:doS s x=zAO s x.Tx:=by unfold doS;rw [if_neg k1,if_neg k2,if_neg k3,if_neg k4,if_neg k5,if_pos hk]
  refine yJ zA0 zAN hX.at x.Tx rfl ?_
  refine zL2 h3 hI hn x.Tx λr ρ' W hM g hO hρ=>?_
  have M:=mid hM g nop hO nor hρ
  refine ⟨_,W,zDG _ _,?_⟩
  refine M.st zBz (slv r).1 (by show _<7;decide) (slv r).2 hwC hAC λW1 M=>?_
  refine ⟨_,W1,zDO _ _,?_⟩
  refine M.st yF rfl (by show _<7;decide) rfl hwC hAC λW2 M=>?_
  refine ⟨_,W2,Yo _ _,?_⟩
  refine M.st (off:=0) zBK rfl (by show _<7;decide) rfl hwC hAC λW3 M=>?_
  exact fin (y:=⟨(zAO s x.Tx).2.why,0,noB,false,Sl.none,r,(zAO s x.Tx).2.time⟩) (a:={ans0 with done:=(zAO s x.Tx).2.done,time:=(zAO s x.Tx).2.time,why:=(zAO s x.Tx).2.why}) (by rw [he,← zNW]) M rfl rfl rfl rfl rfl rfl rfl rfl rfl
 refine yJ Z4 zBm hX.at x.Kind rfl ⟨λhk=>?_,λk7=>?_⟩
 ·have he:doS s x=zGe s x.Tx:=by unfold doS;rw [if_neg k1,if_neg k2,if_neg k3,if_neg k4,if_neg k5,if_neg k6,if_pos hk]
  refine yJ zA0 zAN hX.at x.Tx rfl ?_
  refine zPF h3 x.Tx λρ' W hM g=>?_
  have M:=mid hM g nop nod nor nor
  refine ⟨_,W,Yo _ _,?_⟩
  refine M.st (off:=0) zBK rfl (by show _<7;decide) rfl hwC hAC λW2 M=>?_
  exact fin (y:=⟨(zGe s x.Tx).2.why,0,noB,false,Sl.none,Sl.none,0⟩) (a:={ans0 with why:=(zGe s x.Tx).2.why}) (by rw [he,← zOI]) M rfl rfl rfl rfl rfl rfl rfl rfl rfl
 ·have he:doS s x=(s,errA 15):=by unfold doS;rw [if_neg k1,if_neg k2,if_neg k3,if_neg k4,if_neg k5,if_neg k6,if_neg k7]
  exact fin (y:=zAns) he (mid h3 (Ext.refl _ _) nop nod nor nor) rfl rfl rfl rfl rfl rfl rfl rfl rfl
end Go.Proofs.YtealcoghiaeiiaaGreat.VG
set_option linter.unusedVariables false
set_option linter.unusedSimpArgs false
namespace Go.Proofs.YtealcoghiaeiiaaGreat.VG
open Go.VB Go.Proofs Go.RowKit
theorem zKp {l:List Pai} (h:zGM l l.length):∀ d i x y,l[i]?=some x->l[i+d+1]?=some y->sLt x.Key y.Key=true
 |0,i,x,y,hx,hy=>h i x y (List.getElem?_eq_some_iff.1 hy).1 hx hy
 |d+1,i,x,y,hx,hy=>by
  obtain ⟨z,hz⟩:=getE (l:=l) (n:=i+d+1) (by have:=(List.getElem?_eq_some_iff.1 hy).1;omega)
  exact zHw (zKp h d i x z hx hz) (h (i+d+1) z y (by have:=(List.getElem?_eq_some_iff.1 hy).1;omega) hz (by rw [show i+d+1+1=i+(d+1)+1 by omega];exact hy))
theorem zLS {l:List Pai} (h:zGM l l.length):Rise (λp:Pai=>p.Key) l:=by
 rw [Rise,List.pairwise_iff_getElem]
 intro i j hi hj hij
 refine zKp h (j - i - 1) i _ _ (List.getElem?_eq_getElem hi) ?_
 rw [show i+(j - i - 1)+1=j by omega];exact List.getElem?_eq_getElem hj
theorem zOt {l:List Pai} (h1:l.length<=4096) (h2:l.any zHI=false) (h3:zGM l l.length):Inv (newS l) where
 good:=by
  refine zJe (by show (l.map verP).length<=4096;rw [List.length_map];exact h1) (by show (1:Int)<=_;decide) (λx hx=>?_) ?_
  ·obtain ⟨p,hp,rfl⟩:=List.mem_map.1 hx
   have hl:zHI p=false:=by
    cases hpl:zHI p with
    |false=>rfl
    |true=>rw [List.any_eq_true.2 ⟨p,hp,hpl⟩] at h2;cases h2
   unfold zHI at hl
   simp only [Bool.or_eq_false_iff,decide_eq_false_iff_not] at hl
   exact ⟨by show (1:Int)<=1;decide,by show (1:Int)<=_;decide,λh=>(nomatch h),by show p.Key.size<=256;omega,by show p.Val.size<=512;omega⟩
  ·show (l.map verP).Pairwise vlt
   rw [List.pairwise_map]
   exact (zLS h3).imp λ{a b} h=>.inl h
 lo:=Int.le_refl 1
 lonow:=Int.le_refl 1
 past x hx:=by
  obtain ⟨p,hp,rfl⟩:=List.mem_map.1 hx
  exact Int.le_refl _
 giv:=Int.le_refl 0
 dom:=⟨[],⟨List.nodup_nil,λk=>by simp [newS]⟩,by simp⟩
 num n t ht:=(nomatch ht)
 tim n t ht:=(nomatch ht)
 txok n t ht:=(nomatch ht)
theorem zN6 {l:List Pai} (h3:zGM l l.length):zGD (λk=>val (newS l).l k 1) l:=by
 have hs:(l.map verP).Pairwise vlt:=by rw [List.pairwise_map];exact (zLS h3).imp λ{a b} h=>.inl h
 refine ⟨zLS h3,λp=>?_⟩
 show p∈l↔val (l.map verP) p.Key 1=some p.Val
 constructor
 ·intro hp
  have:sees (l.map verP) p.Key 1=some (verP p):=zJ6 hs (List.mem_map.2 ⟨p,hp,rfl⟩) rfl (Int.le_refl _) λy hy _ h=>h
  unfold val;rw [this];rfl
 ·intro h
  unfold val at h
  cases hse:sees (l.map verP) p.Key 1 with
  |none=>rw [hse] at h;cases h
  |some x=>
   rw [hse] at h
   obtain ⟨g1,g2,_⟩:=zI3 hse
   obtain ⟨q,hq,rfl⟩:=List.mem_map.1 g1
   have e1:q.Val=p.Val:=Option.some.inj h
   have e2:q.Key=p.Key:=g2
   obtain ⟨a,c⟩:=p;obtain ⟨a',c'⟩:=q
   simp at e1 e2;subst e1;subst e2;exact hq
abbrev zQ8 (w:World) (s:Sl) (l:List yK):Prop:=Rd yK.cells 5 w s l
end Go.Proofs.YtealcoghiaeiiaaGreat.VG
set_option linter.unusedVariables false
set_option linter.unusedSimpArgs false
namespace Go.Proofs.YtealcoghiaeiiaaGreat.VG
open Go.VB Go.Proofs Go.RowKit
open Classical in
noncomputable def newE (l:List Pai):Int:=if 4096<l.length then 3 else if l.any zHI=true then 4 else if ¬ zGM l l.length then 2 else 0
theorem zOA {w:World} {x:Sl} {l:List Pai} (hd:zJT w x l) {k:Option Addr->Int->World->Prop} (H0:∀ w',newE l≠0->Bel w w'->k none (newE l) w')
  (H1:∀ b ρ w',newE l=0->Inv (newS l)->zGD (λk=>val (newS l).l k 1) l->Bel w w'->Mgr ρ w' b (newS l)->(∀ k,k<w.heap.size->ρ k=none)->k (ptrA b) 0 w'):
  Cl zA zJp [Sl.v x].toArray w (λe w'=>∃ (r0:Option Addr) (r1:Int),e=.returned (.tuple [.pointer r0,.int .i64 r1].toArray)/\k r0 r1 w'):=by
 refine zO5 hd (λh=>?_) (λh1 h2 w' hb=>?_) (λh1 h2 h3 w' hb=>?_) λh1 h2 h3 b ρ w' hb hM hρ=>?_
 ·have e:newE l=3:=by unfold newE;rw [if_pos h]
  rw [e] at H0;exact H0 w (by decide) (Bel.refl _)
 ·have e:newE l=4:=by unfold newE;rw [if_neg (by omega),if_pos h2]
  rw [e] at H0;exact H0 w' (by decide) hb
 ·have e:newE l=2:=by unfold newE;rw [if_neg (by omega),if_neg (by simp [h2]),if_pos h3]
  rw [e] at H0;exact H0 w' (by decide) hb
 ·have e:newE l=0:=by unfold newE;rw [if_neg (by omega),if_neg (by simp [h2]),if_neg (by simp [h3])]
  exact H1 b ρ w' e (zOt h1 h2 h3) (zN6 h3) hb hM hρ
structure Two (w:World) (ba bb:Nat) (sa sb:St) (ρa ρb:Own) (W:World):Prop where
 ma:Mgr ρa W ba sa
 mb:Mgr ρb W bb sb
 dis:∀ k,ρa k≠none->ρb k=none
 bel:Bel w W
 la:∀ k,k<w.heap.size->ρa k=none
 lb:∀ k,k<w.heap.size->ρb k=none
section
variable {w W W':World} {ba bb:Nat} {sa sb s':St} {ρa ρb ρ':Own}
theorem Two.swap (h:Two w ba bb sa sb ρa ρb W):Two w bb ba sb sa ρb ρa W:=⟨h.mb,h.ma,λk hk=>Classical.byContradiction λh1=>hk (h.dis k h1),h.bel,h.lb,h.la⟩
theorem Two.a (h:Two w ba bb sa sb ρa ρb W) (hM:Mgr ρ' W' ba s') (hE:Ext ρa W ρ' W'):Two w ba bb s' sb ρ' ρb W' where
 ma:=hM
 mb:=h.mb.out hE.out λk hk=>h.dis k hk
 dis k hk:=by
  by_cases hk1:k<W.heap.size
  ·exact h.dis k (by rw [← hE.same k hk1];exact hk)
  ·cases hb:ρb k with
   |none=>rfl
   |some r=>have:=h.mb.lt k (by rw [hb];simp);omega
 bel:=hE.base h.bel h.la
 la:=hE.clear h.bel.le h.la
 lb:=h.lb
theorem Two.b (h:Two w ba bb sa sb ρa ρb W) (hM:Mgr ρ' W' bb s') (hE:Ext ρb W ρ' W'):Two w ba bb sa s' ρa ρ' W':=(h.swap.a hM hE).swap
theorem Two.more (h:Two w ba bb sa sb ρa ρb W) (hb:Bel W W'):Two w ba bb sa sb ρa ρb W':=⟨h.ma.bel hb,h.mb.bel hb,h.dis,h.bel.trans hb,h.la,h.lb⟩
theorem Two.new (h:Two w ba bb sa sb ρa ρb W) {k:Nat} (hk:W.heap.size<=k):ρa k=none/\ρb k=none:=by
 constructor
 ·cases hb:ρa k with
  |none=>rfl
  |some r=>have:=h.ma.lt k (by rw [hb];simp);omega
 ·cases hb:ρb k with
  |none=>rfl
  |some r=>have:=h.mb.lt k (by rw [hb];simp);omega
end
theorem zHx.keep {w w':World} {x:zc} {a:Ans} (h:zHx w x a) (hp:∀ q,(Sl.v x.Pairs).ownBlock=some q->w'.heap[q]?=w.heap[q]?) (hd:∀ q,(Sl.v x.Done).ownBlock=some q->w'.heap[q]?=w.heap[q]?):zHx w' x a:=
 ⟨h.1,h.2.1,h.2.2.1,h.2.2.2.1,h.2.2.2.2.1.keep hp,h.2.2.2.2.2.1.keep hd,h.2.2.2.2.2.2⟩
theorem zJJ.ext {base:Nat} {ρ ρb ρ':Own} {W W':World} {y:zc} {a:Ans} (h:zJJ base ρ W y a) (hE:Ext ρb W ρ' W') (hn:∀ k,base<=k->ρb k=none):zHx W' y a:=
 h.ans.keep (λq hq=>hE.blk (h.pairs.lt hq) (hn q (h.pairs.lo hq))) (λq hq=>hE.blk (h.done.lt hq) (hn q (h.done.lo hq)))
theorem zNe {s:St} (hI:Inv s) (hn:s.now+1<=maxT) {n:Int} {t:Tx} (ht:s.tx n=some t) {ys:List Wri} (hS:zE9 t.wr ys):
  (s.l.any (conf t)=true->(zAO s n).2.why=10/\(zAO s n).2.done=[])/\(s.l.any (conf t)=false->(zAO s n).2.why=3∨(zAO s n).2.why=0/\(zAO s n).2.done=ys):=by
 unfold zAO
 rw [zBW ht]
 unfold zGa
 refine ⟨λhc=>by rw [if_pos hc];exact ⟨rfl,rfl⟩,λhc=>?_⟩
 rw [if_neg (by simp [hc]),zGB hS]
 by_cases he:∀ k,t.wr k=none
 ·rw [if_pos he]
  refine .inr ⟨rfl,?_⟩
  cases ys with
  |nil=>rfl
  |cons y ys=>have:=(hS.2 y).1 (by simp);rw [he] at this;cases this
 rw [if_neg he]
 have hw:=zPi hI ht hS hn
 by_cases hp:pwhy s.l s.low ys (s.now+1)=0
 ·have hv:vput s.l s.low ys (s.now+1)=(putL s.l (s.now+1) ys,s.low,0):=by unfold vput;rw [if_neg (by simp [hp])]
  rw [hv,if_neg (by simp)]
  exact .inr ⟨rfl,rfl⟩
 ·have hv:vput s.l s.low ys (s.now+1)=([],0,pwhy s.l s.low ys (s.now+1)):=by unfold vput;rw [if_pos hp]
  rw [hv,if_pos hp]
  left
  show pwhy s.l s.low ys (s.now+1)=3
  rw [hw] at hp ⊢
  split
  ·rfl
  ·rename_i h;rw [if_neg h] at hp;exact absurd rfl hp
noncomputable def zHy (s:St) (n:Int):List Wri × Bool × Int:=match s.tx n with
 |none=>([],false,11)
 |some t=>(zFt t.wr,s.l.any (conf t),0)
theorem zOq {ρ:Own} {w:World} {b:Nat} {s:St} (h:Mgr ρ w b s) (hI:Inv s) (n:Int) {k:Sl->Bool->Int->World->Prop} (H:∀ r w',zBw w.heap.size w' r (zHy s n).1->Bel w w'->k r (zHy s n).2.1 (zHy s n).2.2 w'):
  Cl zA zF2 [.pointer (ptrA b),.int .i64 n].toArray w (λe w'=>∃ (r0:Sl) (r1:Bool) (r2:Int),e=.returned (.tuple [Sl.v r0,.bool r1,.int .i64 r2].toArray)/\k r0 r1 r2 w'):=by
 refine zPX h n (λt ht=>⟨(hI.txok n t ht).few,(hI.txok n t ht).keyed⟩) (λht=>?_) λt r w' ys base ht hb hS hO b1=>?_
 ·have e:zHy s n=([],false,11):=by unfold zHy;rw [ht]
  rw [e] at H;exact H Sl.none w (OwnS.nil _ _ _ _ _) (Bel.refl _)
 ·have e:zHy s n=(ys,s.l.any (conf t),0):=by unfold zHy;rw [ht];simp only;rw [zGB hS]
  rw [e] at H;exact H r w' (hO.low hb) b1
end Go.Proofs.YtealcoghiaeiiaaGreat.VG
set_option linter.unusedVariables false
set_option linter.unusedSimpArgs false
namespace Go.Proofs.YtealcoghiaeiiaaGreat.VG
open Go.VB Go.Proofs
def zA9 (Ret:Bool->World->Prop) (x89:Bool) (w:World):Prop:=
 Ret x89 w
def zA8 (Ret:Bool->World->Prop) (x97:Bool) (w:World):Prop:=
 Ret x97 w
def zBA (Ret:Bool->World->Prop) (x108:Bool) (w:World):Prop:=
 Ret x108 w
def zA7 (Ret:Bool->World->Prop) (x107:Bool) (w:World):Prop:=
 zBA Ret x107 w
def zAl (x1:Sl) (x2:Int) (Ret:Bool->World->Prop) (r_1:Option Addr) (r_3:Option Addr) (x49:Int) (w:World) (Kl4:Int->World->Prop):Prop:=
 ((x49<(x1.len:Int))->(opE zA zC (zF 45 (Sl.v x1) (.int .i64 x49)) w (λx51 w=>opE zA yK.v (zD 49 (.pointer x51)) w (λx52 w=>opE zA zC (zh 49 true (.tuple #[])) w (λx12 w=>opU zA (zJ 49 (.pointer x12) (yK.v x52)) w (λw=>opE zA zC (zN 49 (.pointer x12) 1) w (λx54 w=>opE zA (zU .i64) (zD 3 (.pointer x54)) w (λx55 w=>Cl zA 27 [(.pointer r_1),(.int .i64 x55)].toArray w (λe w=>∃ (r_5:Sl) (r_6:Bool) (r_7:Int),e=.returned (.tuple [(Sl.v r_5),(.bool r_6),(.int .i64 r_7)].toArray)/\(regC w (λC5 w=>opC C5 zA yK.v (zD 49 (.pointer x12)) (λx58=>opC C5 zA yK.v (zD 49 (.pointer x12)) (λx61=>Cl zA 19 [(.pointer r_1),(yK.v x58)].toArray w (λe w=>∃ (r_8:zc),e=.returned (zc.v r_8)/\(C5 w/\(Cl zA 19 [(.pointer r_3),(yK.v x61)].toArray w (λe w=>∃ (r_9:zc),e=.returned (zc.v r_9)/\(C5 w/\(Cl zA 24 [(zc.v r_8),(zc.v r_9)].toArray w (λe w=>∃ (r_10:Bool),e=.returned (.bool r_10)/\(C5 w/\(((!r_10)=true->(Ret false w))/\((!r_10)=false->(Kl4 (zB .i64 (x49+1)) w))))))))))))))))))))))))/\(¬ (x49<(x1.len:Int))->(Cl zA 27 [(.pointer r_1),(.int .i64 x2)].toArray w (λe w=>∃ (r_11:Sl) (r_12:Bool) (r_13:Int),e=.returned (.tuple [(Sl.v r_11),(.bool r_12),(.int .i64 r_13)].toArray)/\(Cl zA 15 [(.pointer r_1),(.int .i64 x2)].toArray w (λe w=>∃ (r_14:Sl) (r_15:Int) (r_16:Int),e=.returned (.tuple [(Sl.v r_14),(.int .u64 r_15),(.int .i64 r_16)].toArray)/\(((r_13≠0)->(((r_16=r_13)->(zA9 Ret (decide ((r_11.len:Int)=0)) w))/\(¬ (r_16=r_13)->(zA9 Ret false w))))/\(¬ (r_13≠0)->((r_12=true->(((r_16=10)->(zA8 Ret (decide ((r_14.len:Int)=0)) w))/\(¬ (r_16=10)->(zA8 Ret false w))))/\(r_12=false->(((r_16=3)->(zBA Ret true w))/\(¬ (r_16=3)->(((r_16=0)->(Cl zA 28 [(Sl.v r_11),(Sl.v r_14)].toArray w (λe w=>∃ (r_17:Bool),e=.returned (.bool r_17)/\(zA7 Ret r_17 w))))/\(¬ (r_16=0)->(zA7 Ret false w))))))))))))))
def ZB (x1:Sl) (x2:Int) (Ret:Bool->World->Prop) (r_1:Option Addr) (r_2:Int) (r_3:Option Addr) (r_4:Int) (x43:Bool) (w:World):Prop:=
 (x43=true->(Ret (decide (r_2=r_4)) w))/\(x43=false->(∃ (I:Int->World->Prop) (μ:Int->World->Nat),I 0 w/\∀ (x49:Int) w,I x49 w->zAl x1 x2 Ret r_1 r_3 x49 w (λx49' w'=>I x49' w'/\μ x49' w'<μ x49 w)))
def ZA (x1:Sl) (x2:Int) (Ret:Bool->World->Prop) (r_1:Option Addr) (r_2:Int) (r_3:Option Addr) (r_4:Int) (x39:Bool) (w:World):Prop:=
 (x39=true->(ZB x1 x2 Ret r_1 r_2 r_3 r_4 true w))/\(x39=false->(opE zA xh (do eqGuard .eql 26 (.tmp 41) (.const (.pointer none)) (.pointer r_3) (.pointer none);binOp .eql 26 (.pointer r_3) (.pointer none)) w (λx42 w=>ZB x1 x2 Ret r_1 r_2 r_3 r_4 x42 w)))
def Y9 (x1:Sl) (x2:Int) (Ret:Bool->World->Prop) (r_1:Option Addr) (r_2:Int) (r_3:Option Addr) (r_4:Int) (x35:Bool) (w:World):Prop:=
 (x35=true->(ZA x1 x2 Ret r_1 r_2 r_3 r_4 true w))/\(x35=false->(opE zA xh (do eqGuard .eql 26 (.tmp 37) (.const (.pointer none)) (.pointer r_1) (.pointer none);binOp .eql 26 (.pointer r_1) (.pointer none)) w (λx38 w=>ZA x1 x2 Ret r_1 r_2 r_3 r_4 x38 w)))
def zCc (x0:Sl) (x1:Sl) (x2:Int) (w:World) (Ret:Bool->World->Prop):Prop:=
 Cl zA 10 [].toArray w (λe w=>∃ (r:Bool),e=.returned (.bool r)/\(((!r)=true->(Ret false w))/\((!r)=false->(Cl zA 11 [(Sl.v x0)].toArray w (λe w=>∃ (r_1:Option Addr) (r_2:Int),e=.returned (.tuple [(.pointer r_1),(.int .i64 r_2)].toArray)/\(Cl zA 11 [(Sl.v x0)].toArray w (λe w=>∃ (r_3:Option Addr) (r_4:Int),e=.returned (.tuple [(.pointer r_3),(.int .i64 r_4)].toArray)/\(((r_2≠0)->(Y9 x1 x2 Ret r_1 r_2 r_3 r_4 true w))/\(¬ (r_2≠0)->(Y9 x1 x2 Ret r_1 r_2 r_3 r_4 (decide (r_4≠0)) w))))))))))
set_option maxRecDepth 100000 in
theorem zG0 (x0:Sl) (x1:Sl) (x2:Int) (w:World) (Ret:Bool->World->Prop) (H:zCc x0 x1 x2 w Ret):Cl zA 8 [(Sl.v x0),(Sl.v x1),(.int .i64 x2)].toArray w (λe w'=>∃ (r0:Bool),e=.returned (.bool r0)/\Ret r0 w'):=by
 unfold zCc at H
 refine zk 109 (zipE 0 [(Sl.v x0),(Sl.v x1),(.int .i64 x2)]) Tryz.func8 rfl rfl (by rfl) rfl ?_
 intro a g
 replace g:Sat [] 109 [(0,(Sl.v x0)),(1,(Sl.v x1)),(2,(.int .i64 x2))] a:=g
 refine zK (zE (g.as_ rfl λ_ g=>zM (tn (zK (zK (zE (g.call (zY g zQn rfl rfl) H λe w H=>?_)))))))
 obtain ⟨r,rfl,H⟩:=H
 refine ⟨_,rfl,λ_ g=>(g.pur (zAL g rfl) λ_ g=>zM (tn (ze g rfl (λhc=>?_) (λhc=>?_))))⟩
 ·replace H:=H.1 hc
  exact zK (zE (g.as_ rfl λ_ g=>zM (tn (zf (tr (zv g rfl rfl ⟨_,rfl,H⟩))))))
 ·replace H:=H.2 hc
  refine zX (tn (zK (zE (g.mv rfl λ_ g=>g.call (zY g zN1 rfl rfl) H λe w H=>?_))))
  obtain ⟨r_1,r_2,rfl,H⟩:=H
  refine ⟨_,rfl,λ_ g=>(g.mv rfl λ_ g=>g.pur (zZ g rfl rfl) λ_ g=>g.pur (zZ g rfl rfl) λ_ g=>g.as_ rfl λ_ g=>g.as_ rfl λ_ g=>zM (tn (zK (zE (g.mv rfl λ_ g=>g.call (zY g zN1 rfl rfl) H λe w H=>?_)))))⟩
  obtain ⟨r_3,r_4,rfl,H⟩:=H
  refine ⟨_,rfl,λ_ g=>(g.mv rfl λ_ g=>g.pur (zZ g rfl rfl) λ_ g=>g.pur (zZ g rfl rfl) λ_ g=>g.as_ rfl λ_ g=>g.as_ rfl λ_ g=>zM (tn (zK (zK (zE (g.mv rfl λ_ g=>g.pur (zFO g rfl rfl) λ_ g=>g.mv rfl λ_ g=>WL.join (ds:=[]) (N:=109) (σ:=Bool) (λs=>[(35,(.bool s)),(1,(Sl.v x1)),(2,(.int .i64 x2)),(7,(.pointer r_1)),(8,(.int .i64 r_2)),(9,(.pointer r_3)),(10,(.int .i64 r_4))]) (λs w=>Y9 x1 x2 Ret r_1 r_2 r_3 r_4 s w) 3 ?_ (λhr1=>?_)))))))⟩
  ·intro x35 w a H g
   try dsimp only at H g
   unfold Y9 at H
   refine g.mv rfl λ_ g=>WL.join (ds:=[]) (N:=109) (σ:=Bool) (λs=>[(39,(.bool s)),(1,(Sl.v x1)),(2,(.int .i64 x2)),(7,(.pointer r_1)),(8,(.int .i64 r_2)),(9,(.pointer r_3)),(10,(.int .i64 r_4))]) (λs w=>ZA x1 x2 Ret r_1 r_2 r_3 r_4 s w) 3 ?_ (λhr2=>?_)
   ·intro x39 w a H g
    try dsimp only at H g
    unfold ZA at H
    refine g.mv rfl λ_ g=>WL.join (ds:=[]) (N:=109) (σ:=Bool) (λs=>[(43,(.bool s)),(1,(Sl.v x1)),(2,(.int .i64 x2)),(7,(.pointer r_1)),(8,(.int .i64 r_2)),(9,(.pointer r_3)),(10,(.int .i64 r_4))]) (λs w=>ZB x1 x2 Ret r_1 r_2 r_3 r_4 s w) 3 ?_ (λhr3=>?_)
    ·intro x43 w a H g
     try dsimp only at H g
     unfold ZB at H
     refine zM (tn (ze g rfl (λhc=>?_) (λhc=>?_)))
     ·replace H:=H.1 hc
      exact zK (zE (g.mv rfl λ_ g=>g.mv rfl λ_ g=>g.pur (ZF g rfl rfl) λ_ g=>g.as_ rfl λ_ g=>zM (tn (zf (tr (zv g rfl rfl ⟨_,rfl,H⟩))))))
     ·replace H:=H.2 hc
      refine zX (tn (zK (zK (zE (g.mv rfl λ_ g=>g.purR (λw=>Z7 g Tryz.underlying45 rfl) λ_ g=>g.mv rfl λ_ g=>zM (tn (zW ?_)))))))
      obtain ⟨I_l4,μ_l4,h0,hb⟩:=H
      refine yG (ds:=[]) (N:=109) (σ:=Int) (λs=>[(49,(.int .i64 s)),(2,(.int .i64 x2)),(7,(.pointer r_1)),(9,(.pointer r_3)),(47,(Sl.v x1)),(48,(.int .i64 (x1.len:Int)))]) (λs w=>I_l4 s w) (λs w=>μ_l4 s w) 0 h0 (g.wk) ?_
      intro x49 w a hI g
      try dsimp only at hI g
      obtain ⟨Kl4,hK_l4⟩:∃ K:Int->World->Prop,K=(λx49' w'=>I_l4 x49' w'/\μ_l4 x49' w'<μ_l4 x49 w):=⟨_,rfl⟩
      have H:zAl x1 x2 Ret r_1 r_3 x49 w Kl4:=by rw [hK_l4];exact hb x49 w hI
      clear hb h0 hI
      unfold zAl at H
      refine zK (zE (g.pur (yh g rfl rfl) λ_ g=>zM (tn (zK (zb g rfl (λhc=>?_) (λhc=>?_))))))
      ·replace H:=H.1 hc
       refine zX (tn (zK (zW (zK (zE (g.op (zH g rfl rfl) H λx51 w a H g=>g.op (zO g rfl) H λx52 w a H g=>g.op (YJ) H λx12 w a H g=>g.opu (zT g rfl rfl) H λw a H g=>zM (tn (zK (zE (g.mv rfl λ_ g=>g.op (zR g rfl) H λx54 w a H g=>g.op (zO g rfl) H λx55 w a H g=>g.call (zY g zP0 rfl rfl) H λe w H=>?_))))))))))
       obtain ⟨r_5,r_6,r_7,rfl,H⟩:=H
       refine ⟨_,rfl,λ_ g=>(zM (tn (zK (zMY H 8 λC5 w hC0 H=>g.kp 0 rfl hC0 (Qd (zQ g rfl)) λ_ g=>g.kp 3 rfl hC0 (Qd (zQ g rfl)) λ_ g=>g.ko 1 rfl hC0 (zO g rfl) H λx58 a H g=>g.ko 4 rfl hC0 (zO g rfl) H λx61 a H g=>WK.on 2 rfl ?_))))⟩
       intro K hK
       refine g.wcall (zY g zPo rfl rfl) H λe w H=>?_
       obtain ⟨r_8,rfl,H⟩:=H
       refine ⟨_,rfl,λ_ g=>(hK _ _ ⟨H.1,?_⟩)⟩
       have hC1:=H.1
       replace H:=H.2
       refine WK.on 5 rfl ?_
       intro K hK
       refine g.wcall (zY g zPo rfl rfl) H λe w H=>?_
       obtain ⟨r_9,rfl,H⟩:=H
       refine ⟨_,rfl,λ_ g=>(hK _ _ ⟨H.1,?_⟩)⟩
       have hC2:=H.1
       replace H:=H.2
       refine WK.on 6 rfl ?_
       intro K hK
       refine g.wcall (zY g zQk rfl rfl) H λe w H=>?_
       obtain ⟨r_10,rfl,H⟩:=H
       refine ⟨_,rfl,λ_ g=>(hK _ _ ⟨H.1,?_⟩)⟩
       have hC3:=H.1
       replace H:=H.2
       refine g.kp 7 rfl hC3 (Qd (zAL g rfl)) λ_ g=>WK.nil (by kernel_rfl) ((tn (ze g rfl (λhc=>?_) (λhc=>?_))))
       ·replace H:=H.1 hc
        exact zK (zE (g.as_ rfl λ_ g=>zM (tn (zf (br (tr (tr (br (tr (zv g rfl rfl ⟨_,rfl,H⟩))))))))))
       ·replace H:=H.2 hc
        refine zX (bn (tn (zE (g.pur (zm g rfl rfl) λ_ g=>g.mv rfl λ_ g=>?_))))
        rw [hK_l4] at H
        exact zM (tn ⟨(zB .i64 (x49+1)),g.wk,H⟩)
      ·replace H:=H.2 hc
       refine z9 (te (te (be (tn (zK (zE (g.mv rfl λ_ g=>g.mv rfl λ_ g=>g.call (zY g zP0 rfl rfl) H λe w H=>?_)))))))
       obtain ⟨r_11,r_12,r_13,rfl,H⟩:=H
       refine ⟨_,rfl,λ_ g=>(g.mv rfl λ_ g=>g.pur (zZ g rfl rfl) λ_ g=>g.pur (zZ g rfl rfl) λ_ g=>g.pur (zZ g rfl rfl) λ_ g=>g.as_ rfl λ_ g=>g.as_ rfl λ_ g=>g.as_ rfl λ_ g=>zM (tn (zK (zE (g.mv rfl λ_ g=>g.mv rfl λ_ g=>g.call (zY g zNI rfl rfl) H λe w H=>?_)))))⟩
       obtain ⟨r_14,r_15,r_16,rfl,H⟩:=H
       refine ⟨_,rfl,λ_ g=>(g.mv rfl λ_ g=>g.pur (zZ g rfl rfl) λ_ g=>g.pur (zZ g rfl rfl) λ_ g=>g.pur (zZ g rfl rfl) λ_ g=>g.as_ rfl λ_ g=>g.as_ rfl λ_ g=>g.as_ rfl λ_ g=>zM (tn (zK (zK (zE (g.mv rfl λ_ g=>g.pur (zFO g rfl rfl) λ_ g=>zM (tn (zb g rfl (λhc=>?_) (λhc=>?_)))))))))⟩
       ·replace H:=H.1 hc
        refine zK (zE (g.mv rfl λ_ g=>g.mv rfl λ_ g=>g.pur (ZF g rfl rfl) λ_ g=>g.mv rfl λ_ g=>WL.join (ds:=[]) (N:=109) (σ:=Bool) (λs=>[(89,(.bool s))]) (λs w=>zA9 Ret s w) 4 ?_ (λhr6=>?_)))
        ·intro x89 w a H g
         try dsimp only at H g
         unfold zA9 at H
         exact g.as_ rfl λ_ g=>zM (tn (zf (tr (zv g rfl rfl ⟨_,rfl,H⟩))))
        ·rcases Classical.em ((r_16=r_13)) with hbr6|hbr6
         ·replace H:=H.1 hbr6
          replace g:=g.bool (b:=true) (t:=85) rfl (decide_eq_true hbr6)
          exact g.on (by rfl) (by rfl) (g.mv rfl λ_ g=>g.on (by rfl) (by rfl) (g.purR (λw=>Z7 g Tryz.underlying30 rfl) λ_ g=>g.on (by rfl) (by rfl) (g.pur (ZF g rfl rfl) λ_ g=>g.pur (zo g rfl rfl) λ_ g=>hr6 (decide ((r_11.len:Int)=0)) _ _ H (g.wk))))
         ·replace H:=H.2 hbr6
          replace g:=g.bool (b:=false) (t:=85) rfl (decide_eq_false hbr6)
          exact g.off (by rfl) (by rfl) (by decide) (λ_ g=>g.off (by rfl) (by rfl) (by decide) (λ_ g=>g.off (by rfl) (by rfl) (by decide) (λ_ g=>g.pur (zn g rfl rfl) λ_ g=>hr6 false _ _ H (g.wk))))
       ·replace H:=H.2 hc
        refine zX (tn (zK (zK (zE (g.mv rfl λ_ g=>zM (tn (ze g rfl (λhc=>?_) (λhc=>?_))))))))
        ·replace H:=H.1 hc
         refine zK (zE (g.mv rfl λ_ g=>g.pur (ZF g rfl rfl) λ_ g=>g.mv rfl λ_ g=>WL.join (ds:=[]) (N:=109) (σ:=Bool) (λs=>[(97,(.bool s))]) (λs w=>zA8 Ret s w) 4 ?_ (λhr7=>?_)))
         ·intro x97 w a H g
          try dsimp only at H g
          unfold zA8 at H
          exact g.as_ rfl λ_ g=>zM (tn (zf (tr (zv g rfl rfl ⟨_,rfl,H⟩))))
         ·rcases Classical.em ((r_16=10)) with hbr7|hbr7
          ·replace H:=H.1 hbr7
           replace g:=g.bool (b:=true) (t:=93) rfl (decide_eq_true hbr7)
           exact g.on (by rfl) (by rfl) (g.mv rfl λ_ g=>g.on (by rfl) (by rfl) (g.purR (λw=>Z7 g Tryz.underlying30 rfl) λ_ g=>g.on (by rfl) (by rfl) (g.pur (ZF g rfl rfl) λ_ g=>g.pur (zo g rfl rfl) λ_ g=>hr7 (decide ((r_14.len:Int)=0)) _ _ H (g.wk))))
          ·replace H:=H.2 hbr7
           replace g:=g.bool (b:=false) (t:=93) rfl (decide_eq_false hbr7)
           exact g.off (by rfl) (by rfl) (by decide) (λ_ g=>g.off (by rfl) (by rfl) (by decide) (λ_ g=>g.off (by rfl) (by rfl) (by decide) (λ_ g=>g.pur (zn g rfl rfl) λ_ g=>hr7 false _ _ H (g.wk))))
        ·replace H:=H.2 hc
         refine zX (tn (zK (zE (g.mv rfl λ_ g=>g.pur (ZF g rfl rfl) λ_ g=>g.mv rfl λ_ g=>WL.join (ds:=[]) (N:=109) (σ:=Bool) (λs=>[(108,(.bool s))]) (λs w=>zBA Ret s w) 8 ?_ (λhr8=>?_)))))
         ·intro x108 w a H g
          try dsimp only at H g
          unfold zBA at H
          exact g.as_ rfl λ_ g=>zM (tn (zf (zv g rfl rfl ⟨_,rfl,H⟩)))
         ·rcases Classical.em ((r_16=3)) with hbr8|hbr8
          ·replace H:=H.1 hbr8
           replace g:=g.bool (b:=true) (t:=100) rfl (decide_eq_true hbr8)
           exact g.off (by rfl) (by rfl) (by decide) (λ_ g=>g.off (by rfl) (by rfl) (by decide) (λ_ g=>g.off (by rfl) (by rfl) (by decide) (λ_ g=>g.offU (by rfl) (by rfl) (λ_ g=>g.offU (by rfl) (by rfl) (λ_ g=>g.offU (by rfl) (by rfl) (λ_ g=>g.off (by rfl) (by rfl) (by decide) (λ_ g=>g.pur (zo g rfl rfl) λ_ g=>hr8 true _ _ H (g.wk))))))))
          ·replace H:=H.2 hbr8
           replace g:=g.bool (b:=false) (t:=100) rfl (decide_eq_false hbr8)
           refine g.on (by rfl) (by rfl) (g.mv rfl λ_ g=>g.on (by rfl) (by rfl) (g.pur (ZF g rfl rfl) λ_ g=>g.on (by rfl) (by rfl) (g.mv rfl λ_ g=>WL.join (ds:=[]) (N:=109) (σ:=Bool) (λs=>[(107,(.bool s)),(100,(.bool false))]) (λs w=>zA7 Ret s w) 4 ?_ (λhr9=>?_))))
           ·intro x107 w a H g
            try dsimp only at H g
            unfold zA7 at H
            exact g.pur (zn g rfl rfl) λ_ g=>hr8 x107 _ _ H (g.wk)
           ·rcases Classical.em ((r_16=0)) with hbr9|hbr9
            ·replace H:=H.1 hbr9
             replace g:=g.bool (b:=true) (t:=103) rfl (decide_eq_true hbr9)
             refine g.on (by rfl) (by rfl) (g.mv rfl λ_ g=>g.on (by rfl) (by rfl) (g.mv rfl λ_ g=>g.on (by rfl) (by rfl) (g.call (zY g zOR rfl rfl) H λe w H=>?_)))
             obtain ⟨r_17,rfl,H⟩:=H
             exact ⟨_,rfl,λ_ g=>(g.on (by rfl) (by rfl) (g.pur (zo g rfl rfl) λ_ g=>hr9 r_17 _ _ H (g.wk)))⟩
            ·replace H:=H.2 hbr9
             replace g:=g.bool (b:=false) (t:=103) rfl (decide_eq_false hbr9)
             exact g.off (by rfl) (by rfl) (by decide) (λ_ g=>g.off (by rfl) (by rfl) (by decide) (λ_ g=>g.off (by rfl) (by rfl) (by decide) (λ_ g=>g.on (by rfl) (by rfl) (g.pur (zn g rfl rfl) λ_ g=>hr9 false _ _ H (g.wk)))))
    ·rcases Bool.eq_false_or_eq_true (x39) with hbr3|hbr3
     ·replace H:=H.1 hbr3
      replace g:=g.bool (b:=true) (t:=40) rfl (hbr3)
      exact g.off (by rfl) (by rfl) (by decide) (λ_ g=>g.off (by rfl) (by rfl) (by decide) (λ_ g=>g.pur (zo g rfl rfl) λ_ g=>hr3 true _ _ H (g.wk)))
     ·replace H:=H.2 hbr3
      replace g:=g.bool (b:=false) (t:=40) rfl (hbr3)
      exact g.on (by rfl) (by rfl) (g.mv rfl λ_ g=>g.on (by rfl) (by rfl) (g.op (zCS g rfl rfl) H λx42 w a H g=>g.pur (zn g rfl rfl) λ_ g=>hr3 x42 _ _ H (g.wk)))
   ·rcases Bool.eq_false_or_eq_true (x35) with hbr2|hbr2
    ·replace H:=H.1 hbr2
     replace g:=g.bool (b:=true) (t:=36) rfl (hbr2)
     exact g.off (by rfl) (by rfl) (by decide) (λ_ g=>g.off (by rfl) (by rfl) (by decide) (λ_ g=>g.pur (zo g rfl rfl) λ_ g=>hr2 true _ _ H (g.wk)))
    ·replace H:=H.2 hbr2
     replace g:=g.bool (b:=false) (t:=36) rfl (hbr2)
     exact g.on (by rfl) (by rfl) (g.mv rfl λ_ g=>g.on (by rfl) (by rfl) (g.op (zCS g rfl rfl) H λx38 w a H g=>g.pur (zn g rfl rfl) λ_ g=>hr2 x38 _ _ H (g.wk)))
  ·rcases Classical.em ((r_2≠0)) with hbr1|hbr1
   ·replace H:=H.1 hbr1
    replace g:=g.bool (b:=true) (t:=32) rfl (decide_eq_true hbr1)
    exact g.off (by rfl) (by rfl) (by decide) (λ_ g=>g.off (by rfl) (by rfl) (by decide) (λ_ g=>g.pur (zo g rfl rfl) λ_ g=>hr1 true _ _ H (g.wk)))
   ·replace H:=H.2 hbr1
    replace g:=g.bool (b:=false) (t:=32) rfl (decide_eq_false hbr1)
    exact g.on (by rfl) (by rfl) (g.mv rfl λ_ g=>g.on (by rfl) (by rfl) (g.pur (zFO g rfl rfl) λ_ g=>g.pur (zn g rfl rfl) λ_ g=>hr1 (decide (r_4≠0)) _ _ H (g.wk)))
end Go.Proofs.YtealcoghiaeiiaaGreat.VG
set_option linter.unusedVariables false
set_option linter.unusedSimpArgs false
namespace Go.Proofs.YtealcoghiaeiiaaGreat.VG
open Go.VB Go.Proofs Go.RowKit
theorem zON {w:World} {x0 x1:Sl} {l:List Pai} {steps:List yK} (h:zJT w x0 l) (h1:zQ8 w x1 steps) (tx:Int):
  Cl zA zGy [Sl.v x0,Sl.v x1,.int .i64 tx].toArray w (λe w'=>∃ r0:Bool,e=.returned (.bool r0)/\(r0=true/\Bel w w')):=by
 refine zG0 x0 x1 tx w (λb w'=>b=true/\Bel w w') ?_
 have hbig:=h1.big;have hcap:=h1.cap;have hlen:=h1.len
 unfold zCc
 refine zOn w λw1 b1=>⟨λh=>(nomatch h),λ_=>?_⟩
 refine zOA (h.bel b1) (λw2 he b2=>?_) λba ρa w2 he hI hv b2 ma hρa=>?_
 ·refine zOA ((h.bel b1).bel b2) (λw3 he' b3=>⟨λ_=>?_,λh=>absurd he h⟩) λbb ρb w3 he'=>absurd he' he
  unfold Y9
  refine ⟨λ_=>?_,λh=>(nomatch h)⟩
  unfold ZA
  refine ⟨λ_=>?_,λh=>(nomatch h)⟩
  unfold ZB
  exact ⟨λ_=>⟨decide_eq_true rfl,(b1.trans b2).trans b3⟩,λh=>(nomatch h)⟩
 refine zOA ((h.bel b1).bel b2) (λw3 he' b3=>absurd he he') λbb ρb w3 _ _ _ b3 mb hρb=>⟨λh=>absurd rfl h,λ_=>?_⟩
 unfold Y9
 refine ⟨λh=>(nomatch h),λ_=>zJ3 _ ?_⟩
 unfold ZA
 refine ⟨λh=>(nomatch h),λ_=>zJ3 _ ?_⟩
 unfold ZB
 refine ⟨λh=>(nomatch h),λ_=>?_⟩
 have s1:=b1.le;have s2:=b2.le
 have two:Two w ba bb (newS l) (newS l) ρa ρb w3:=⟨ma.bel b3,mb,λk hk=>hρb k (ma.lt k hk),(b1.trans b2).trans b3,λk hk=>hρa k (by omega),λk hk=>hρb k (by omega)⟩
 refine ⟨λi W=>∃ (j:Nat) (ρa ρb:Own) (s:St),i=(j:Int)/\j<=steps.length/\Two w ba bb s s ρa ρb W/\Inv s/\s.now<=1+j/\s.given<=j,λi _=>(x1.len - i).toNat,
  ⟨0,ρa,ρb,_,rfl,by omega,two,hI,by show (1:Int)<=1+(0:Nat);decide,by show (0:Int)<=(0:Nat);decide⟩,?_⟩
 rintro i W ⟨j,ρa,ρb,s,rfl,hj,hT,hIs,hnow,hgiv⟩
 have hn1:s.now+1<=maxT:=by unfold maxT;omega
 have hok:∀ t,s.tx tx=some t->Few t/\zKi t:=λt ht=>⟨(hIs.txok _ t ht).few,(hIs.txok _ t ht).keyed⟩
 unfold zAl
 refine ⟨λhc=>?_,λhc=>?_⟩
 ·obtain ⟨st,hst⟩:=getE (l:=steps) (n:=j) (by omega)
  refine zFX (h1.bel hT.bel) zJF zJG (by omega) (x:=st) (by simpa using hst) λad hA=>?_
  refine zBb zFM st rfl hA rfl ?_
  refine zCs zKF rfl zFM (cs:=st.cells) rfl rfl rfl λX W1 b5 hX hX0=>?_
  refine yJ zA0 zAN hX.at st.Tx rfl ?_
  have hXn:=hT.new hX0
  have T1:=hT.more b5
  refine zOq T1.ma hIs st.Tx λpr W2 _ b6=>?_
  have T2:=T1.more b6
  refine ⟨λW=>Row W X st.cells zIJ,λW3 b7=>?_⟩
  have hX3:=(hX.bel b6).bel b7
  have T3:=T2.more b7
  refine ⟨hX3,?_⟩
  refine zKh zFM st rfl (λW hW=>hW.at) rfl ?_
  refine zKh zFM st rfl (λW hW=>hW.at) rfl ?_
  refine zP6 T3.ma hIs (by omega) (by omega) st λy1 ρ4 W4 hM4 hE4 hy1=>?_
  have hX4:=hX3.keep (hE4.blk hX3.lt hXn.1)
  refine ⟨hX4,?_⟩
  have T4:=T3.a hM4 hE4
  refine zP6 T4.mb hIs (by omega) (by omega) st λy2 ρ5 W5 hM5 hE5 hy2=>?_
  have hX5:=hX4.keep (hE5.blk hX4.lt hXn.2)
  refine ⟨hX5,?_⟩
  have T5:=T4.b hM5 hE5
  have r1:zHx W5 y1 (doS s st).2:=hy1.ext hE5 λk hk=>by
   cases hb:ρb k with
   |none=>rfl
   |some r=>have:=T3.mb.lt k (by rw [hb];simp);omega
  refine zO0 r1 hy2.ans λr W6 hr b8=>?_
  have hr1:r=true:=hr.2 rfl
  refine ⟨hX5.bel b8,λh=>?_,λ_=>?_⟩
  ·rw [hr1] at h;cases h
  have heff:=zPK hIs hn1 st
  have hnn:=zPZ heff
  rw [wr64 (by omega) (by omega)]
  exact ⟨⟨j+1,ρ4,ρ5,_,by omega,by omega,T5.more b8,zPc hIs hn1 heff,by omega,by omega⟩,by dsimp only;omega⟩
 ·refine zOq hT.ma hIs tx λpr W2 hpO b2=>?_
  have T2:=hT.more b2
  refine zL2 T2.ma hIs (by omega) tx λr ρ3 W3 hM3 hE3 hO3 hρ3=>?_
  have hend:Bel w W3:=(T2.a hM3 hE3).bel
  cases ht:s.tx tx with
  |none=>
   have e1:zHy s tx=([],false,11):=by unfold zHy;rw [ht]
   have e2:zAO s tx=(s,errA 11):=by unfold zAO;rw [zGA ht]
   rw [e1] at hpO ⊢
   rw [e2]
   refine ⟨λ_=>⟨λ_=>?_,λh=>absurd rfl h⟩,λh=>absurd (by decide) h⟩
   have:=hpO.len
   exact ⟨decide_eq_true (by simp at this;omega),hend⟩
  |some t=>
   have hS:=hIs.sorts ht
   have e1:zHy s tx=(zFt t.wr,s.l.any (conf t),0):=by unfold zHy;rw [ht]
   obtain ⟨c1,c2⟩:=zNe hIs hn1 ht hS
   rw [e1] at hpO ⊢
   have hol:=hO3.len
   refine ⟨λh=>absurd rfl h,λ_=>⟨λhc=>?_,λhc=>?_⟩⟩
   ·obtain ⟨d1,d2⟩:=c1 hc
    rw [d2] at hol
    refine ⟨λ_=>⟨decide_eq_true (by simp at hol;omega),hend⟩,λh=>absurd d1 h⟩
   ·refine ⟨λ_=>⟨rfl,hend⟩,λh3=>?_⟩
    obtain ⟨d1,d2⟩:=(c2 hc).resolve_left h3
    refine ⟨λ_=>?_,λh=>absurd d1 h⟩
    have hp3:zIK W3 pr (zFt t.wr):=(zBw.rd hpO).keep λq hq=>hE3.blk (hpO.lt hq) (hT.new (hpO.lo hq)).1
    refine zKH hp3 (zBw.rd hO3) λc W4 hc4 b4=>?_
    have:c=true:=hc4.2 d2.symm
    exact ⟨this,hend.trans b4⟩
end Go.Proofs.YtealcoghiaeiiaaGreat.VG
