/- Texts by which the law's calls are walked (part 9): rules, printed conditions, contracts; no condition. -/
import Derived.TacticsIn
import Derived.TacticsInMore
import Derived.Deep.LoopGhost
import Derived.Sort.QuietThIn
import Derived.RangeFuncCalls
import Derived.RangeFuncNested
import Derived.RangeFuncLeaves
import Derived.WalkKit
import Derived.StillTail
import Derived.Test.YtealcoghiaeiiaaGreatProg
import Derived.KernelRfl
import Derived.Deep.WholeRow
import Derived.Laws.StructEq
import Derived.MapFrom
import Derived.Laws.CopyRow
import Derived.Maps.RangeRun
import Derived.Sort.Walk0
import Derived.RangeFuncBound
import Derived.Test.YtealcoghiaeiiaaGreatPkTxnSerialH
open Go.Proofs.Tryz renaming prog → zA
open Go.IntKind renaming wrap → zC
open Go.Value renaming pointer → zB, int → zV, string → zZ, bool → xv
open Go.Instr renaming loadAt → zD, storeAt → zK, indexAt → zF, fieldAt → zN, alloc → zf, build → yr, buildSlice → ze
open Nat renaming le_refl → zU, le_trans → zn, lt_of_lt_of_le → yF
open List renaming length_append → zg
set_option linter.unusedVariables false
set_option linter.unusedSimpArgs false
namespace Go.Proofs.YtealcoghiaeiiaaGreat.VG
open Go.VB Go.VB.Srt Go.Proofs Go.RowKit
theorem zRF {ρ:Own} {w:World} {b:Nat} {s:St} (h:Mgr ρ w b s) (hI:Inv s) (n:Int) (fr to:ByteArray) {k:Sl->Int->World->Prop}
  (H0:s.tx n=none->∀ w',Bel w w'->k Sl.none 11 w')
  (H1:∀ t,s.tx n=some t->256<=t.reads.length->∀ w',Bel w w'->k Sl.none 3 w')
  (H2:∀ t r ys ρ' w',s.tx n=some t->t.reads.length<256->zAK (cut (Y3 fr to) (zHH s t)) ys->xf w.heap.size w' r ys->(∀ q,(Sl.v r).ownBlock=some q->ρ' q=none)->Mgr ρ' w' b (setTx s n (addR t (Y3 fr to)))->Ext ρ w ρ' w'->k r 0 w'):
  Cl zA zGi [.pointer (ptrA b),.int .i64 n,.string fr,.string to].toArray w (λe w'=>∃ (r0:Sl) (r1:Int),e=.returned (.tuple [Sl.v r0,.int .i64 r1].toArray)/\k r0 r1 w'):=by
 obtain ⟨vs,mb,g,m⟩:=h
 refine zJI (ptrA b) n fr to w k ?_
 unfold zFX
 refine zNh m n (λht=>?_) λt ht=>?_
 ·refine zFL zJx λB w1 b1 hB hB0=>?_
  refine zIZ zBm hB rfl rfl λw2 hB2 g2=>?_
  have b2:Bel w w2:=b1.grown g2 λr hr=>by cases hr;exact hB0
  exact ⟨λ_=>H0 ht w2 b2,λh=>absurd (by decide) h⟩
 refine zFL zJx λX w1 b1 hX hX0=>?_
 refine zIZ zBm hX rfl rfl λw2 hX2 g2=>?_
 have b2:Bel w w2:=b1.grown g2 λr hr=>by cases hr;exact hX0
 refine ⟨λh=>absurd rfl h,λ_=>?_⟩
 have m2:=m.bel b2
 have mt2:=m2.tx n t ht
 have hrl:=mt2.rd.len
 refine zBX zBm (ptrA (g n).tb) hX2.cell ⟨trivial,?_⟩
 refine yA zBh zCH mt2.row.at (g n).rs rfl ?_
 refine ⟨λhc=>H1 t ht (by omega) w2 b2,λhc=>?_⟩
 have hroom:t.reads.length<256:=by omega
 refine ⟨Y3 fr to,w2,by kernel_rfl,?_⟩
 refine zBa zMi rfl zF2 (cs:=(Y3 fr to).cells) rfl rfl rfl λY w3 b3 hY hY0=>?_
 refine ⟨λW=>Row W X [.pointer (ptrA (g n).tb)] zFk/\Row W Y (Y3 fr to).cells zKn/\Row W (g n).tb [.int .u64 t.began,Sl.v (g n).rs,.map (some (g n).wb)] zBV,λw4 b4=>?_⟩
 have b24:=b3.trans b4
 have b04:=b2.trans b24
 have m4:=m.bel b04
 have mt4:=m4.tx n t ht
 have hX4:=hX2.bel b24
 have hY4:=hY.bel b4
 refine ⟨⟨hX4,hY4,mt4.row⟩,?_⟩
 refine zC3 zBm (ptrA (g n).tb) (λW hW=>hW.1.cell) ?_
 refine zC3 zBm (ptrA (g n).tb) (λW hW=>hW.1.cell) ⟨trivial,?_⟩
 refine zFW zBh ?_
 refine zC3 zCH (g n).rs (λW hW=>hW.2.2.at.fld rfl) ?_
 refine zL0 zF2 (Y3 fr to) rfl (λW hW=>hW.2.1.at) rfl ?_
 refine zRU mt4.rd (λ_=>rfl) (λ_=>rfl) (by decide) zHC zII rfl (by decide) (zIX (Y3 fr to)) (Nat.zero_le _) (by omega) (λW hW=>⟨hX4.bel hW,hY4.bel hW,mt4.row.bel hW⟩) λz w5 hO g5 hq=>?_
 have s1:=b1.le;have s2:=b2.le;have s3:=b3.le;have s24:=b24.le;have s04:=b04.le;have s5:=g5.size;have s4:=b4.le;have s12:=g2.size
 have hxl:w.heap.size<=X/\w.heap.size<=Y:=⟨hX0,by omega⟩
 have hrsne:∀ q,w.heap.size<=q->(Sl.v (g n).rs).ownBlock≠some q:=λq hq e=>by have:=m.lt q (by rw [(m.tx n t ht).rrd q e];simp);omega
 have hX5:=hX4.grown g5 (hrsne X hxl.1)
 have hY5:=hY4.grown g5 (hrsne Y hxl.2)
 have hrow5:Row w5 (g n).tb [.int .u64 t.began,Sl.v (g n).rs,.map (some (g n).wb)] zBV:=mt4.row.grown g5 λe=>by
  have:=mt4.rrd _ e;rw [mt4.rtb] at this;cases this
 refine ⟨⟨hX5,hY5,hrow5⟩,trivial,?_⟩
 refine zFW zBh ?_
 refine zIu zCH hrow5 (by cases z with|mk a l c=>cases a<;>rfl) (by simp) (by cases z with|mk a l c=>cases a<;>rfl) λw6 hR6 g6=>?_
 replace hR6:Row w6 (g n).tb [.int .u64 t.began,Sl.v z,.map (some (g n).wb)] zBV:=hR6
 have hzt:(Sl.v z).ownBlock≠some (g n).tb:=OwnS.ne_row hO hrow5 (by decide)
 have hO6:=hO.kept g6 (.inr hzt)
 have htbX:(g n).tb≠X/\(g n).tb≠Y:=by
  have:=m.lt (g n).tb (by rw [(m.tx n t ht).rtb];simp);omega
 have hX6:=hX5.grown g6 (by simpa using htbX.1)
 have hY6:=hY5.grown g6 (by simpa using htbX.2)
 let ρ':Own:=λk=>if (Sl.v z).ownBlock=some k then some (.rb n) else ρ k
 have hρ:∀ k,k<w.heap.size->ρ' k=ρ k:=λk hk=>by
  show (if (Sl.v z).ownBlock=some k then _ else _)=_
  split
  ·rename_i e
   rcases hq k e with h1|h1
   ·exact (mt4.rrd k h1).symm
   ·omega
  ·rfl
 have hs6:=g6.size
 have hρ4:∀ k,k<w4.heap.size->ρ' k=ρ k:=λk hk=>by
  show (if (Sl.v z).ownBlock=some k then _ else _)=_
  split
  ·rename_i e
   rcases hq k e with h1|h1
   ·exact (mt4.rrd k h1).symm
   ·omega
  ·rfl
 have hkeep:∀ k r,ρ k=some r->r≠.tb n->r≠.rb n->w6.heap[k]?=w4.heap[k]?:=λk r hk h1 h2=>by
  have hkl:=m4.lt k (by rw [hk];simp)
  rw [g6.block k (by omega) λe=>by injection e with e;rw [e,mt4.rtb] at hk;cases hk;exact h1 rfl,g5.block k hkl λe=>by
   have:=mt4.rrd k e.symm;rw [hk] at this;cases this;exact h2 rfl]
 have hE46:Ext ρ w4 ρ' w6:=⟨(Out.row (S:=λk=>ρ k≠none) g5 λk hk=>.inl (by show ρ k≠none;rw [mt4.rrd k hk];simp)).trans (Out.row (S:=λk=>ρ k≠none) g6 λk hk=>by cases hk;exact .inl (by show ρ _≠none;rw [mt4.rtb];simp)) λ_ _ h=>h,hρ4⟩
 have hE:Ext ρ w ρ' w6:=(Ext.bel b04).trans hE46
 have m6:zCx ρ' w6 b (setTx s n (addR t (Y3 fr to))) vs mb (λm=>if m=n then ⟨(g n).tb,(g n).wb,z⟩ else g m):=by
  refine m4.setTx ht rfl hρ4 (λk hk=>?_) (λk r hk h1 h2 h3=>hkeep k r hk h1 h3) ?_
  ·by_cases e:(Sl.v z).ownBlock=some k
   ·exact hO6.lt e
   ·have:ρ k≠none:=by
     have h1:(if (Sl.v z).ownBlock=some k then some (Role.rb n) else ρ k)≠none:=hk
     rw [if_neg e] at h1;exact h1
    have:=m4.lt k this;omega
  ·exact {
    row:=hR6
    rtb:=(hρ4 _ (m4.lt _ (by rw [mt4.rtb];simp))).trans mt4.rtb
    rd:=hO6
    rrd:=λk hk=>by show (if (Sl.v z).ownBlock=some k then _ else _)=_;rw [if_pos hk]
    wr:=mt4.wr.keep (hkeep _ _ mt4.rwb (by simp) (by simp))
    rwb:=(hρ4 _ (m4.lt _ (by rw [mt4.rwb];simp))).trans mt4.rwb}
 have hM6:zAD zZ zJ.v w6 (g n).wb t.wr:=mt4.wr.keep (hkeep _ _ mt4.rwb (by simp) (by simp))
 refine ⟨Bel w6,λw7 b7=>⟨b7,trivial,?_⟩⟩
 refine zFW xb ?_
 refine zL0 yC (cs:=[Sl.v vs,.int .u64 s.low]) ⟨vs,s.low⟩ rfl (λW hW=>(m6.bel hW).versAt) rfl ?_
 refine zC3 zBm (ptrA (g n).tb) (λW hW=>(hX6.bel hW).cell) ⟨trivial,?_⟩
 refine zFW zEY ?_
 refine zC3 yO t.began (λW hW=>(hR6.bel hW).at.fld rfl) ?_
 have hvs:zL1 s.l s.low fr to t.began=(zC0 s.l fr to t.began s.l.length,0):=by
  unfold zL1
  rw [if_neg (by rw [zHm.2 ⟨hI.good,(hI.tim n t ht).1⟩];decide)]
 refine zQ4 (x0:=⟨vs,s.low⟩) (m6.bel b7).vers fr to t.began λr2 w8 base hb8 hbw8 hO8 b8=>?_
 replace hO8:xf base w8 r2 (zL1 s.l s.low fr to t.began).1:=hO8
 rw [hvs] at hO8
 replace hO8:xf base w8 r2 (zC0 s.l fr to t.began s.l.length):=hO8
 have hl4:=hI.good.len
 have hsl:=zJs s.l fr to t.began s.l.length
 have b68:=b7.trans b8
 have s67:=b7.le
 refine ⟨b68,?_⟩
 have hXb:X<w6.heap.size:=hX6.lt
 have hTb:(g n).tb<w6.heap.size:=hR6.lt
 have hMb:(g n).wb<w6.heap.size:=hM6.lt
 refine zPf (p:=λd=>(t.wr d.Key).isSome) (C:=λW=>Row W X [.pointer (ptrA (g n).tb)] zFk/\Row W (g n).tb [.int .u64 t.began,Sl.v z,.map (some (g n).wb)] zBV/\zAD zZ zJ.v W (g n).wb t.wr) hO8 ⟨hX6.bel b68,hR6.bel b68,hM6.bel b68⟩ ?_ ?_ λr4 w9 hO9 g9 hb9=>?_
 ·rintro W W' row ⟨h1,h2,h3⟩ hg hr
  have hlo:∀ q,row=some q->w6.heap.size<=q:=λq hq=>by have:=hO8.lo (hr q hq);omega
  exact ⟨h1.grown hg λe=>by have:=hlo _ e;omega,h2.grown hg λe=>by have:=hlo _ e;omega,h3.grown hg λe=>by have:=hlo _ e;omega⟩
 ·rintro W ⟨h1,h2,h3⟩
  exact λd _ w' k' hb hk=>.inl ⟨zF7,[],[.pointer (ptrA X)],rfl,zTk,zP2 d (h1.bel hb) (h2.bel hb) (h3.bel hb) hk⟩
 have b69:Bel w6 w9:=b68.grown g9 λq hq=>by have:=hO8.lo hq;omega
 have s69:=b69.le
 refine zBX zBm (ptrA (g n).tb) (hX6.bel b69).cell ⟨trivial,?_⟩
 refine yA zAc Qs (hR6.bel b69).at (some (g n).wb) rfl ?_
 obtain ⟨⟨dom,hd,hdl⟩,hky⟩:Few t/\zOx t:=⟨(hI.txok n t ht).few,(hI.txok n t ht).keyed⟩
 refine zQ9 (hM6.bel b69) Yf λw10 hi b10=>?_
 have hwb9:(g n).wb<w9.heap.size:=by omega
 have s8:=b8.le;have s9:=g9.size
 have hbase9:base<=w9.heap.size:=by omega
 have hfl:((zC0 s.l fr to t.began s.l.length).filter (λd=>!(t.wr d.Key).isSome)).length<=4096:=zn (List.length_filter_le _ _) (by omega)
 generalize hR:w9.heap.size=R at hi hwb9 hbase9 ⊢
 have s10:=b10.le
 let L0:=(zC0 s.l fr to t.began s.l.length).filter (λd=>!(t.wr d.Key).isSome)
 refine ⟨λx W=>∃ ks,zBM zZ zJ.v W (g n).wb R t.wr ks/\xf base W x (L0++(ks.filterMap t.wr).filterMap (zG0 (Y3 fr to)))/\Bel w6 W/\R<W.heap.size,λ_ W=>dom.length - zH6 W R,⟨[],hi,by show xf base w10 r4 (L0++[]);rw [List.append_nil];exact hO9.bel b10,b69.trans b10,by obtain ⟨c,sb,hb⟩:=hi.blk;exact (Array.getElem?_eq_some_iff.1 hb).1⟩,?_⟩
 rintro x W ⟨ks,hi1,hO1,hb1,hRW⟩
 unfold zCA
 refine zN4 hi1 (by omega) zJC (λhall=>?_) λy v W2 hy hn hi2 hg=>?_
 ·refine ⟨λ_=>?_,λk v e=>by cases e⟩
  refine SoCmpFunc_api_Pair.sort_ok zPt zNz hO1 λys w3 hp hpw hO2 hg=>?_
  have hdk:Doms t.wr ks:=⟨hi1.nd,λx=>⟨hi1.dom x,λ⟨v,hv⟩=>hall x v hv⟩⟩
  have hbf:Bel w6 w3:=hb1.grown hg λq hq=>by have:=hO1.lo hq;omega
  refine H2 t x ys ρ' w3 ht hroom (zPH hI ht fr to hdk hp hpw) (hO2.low (by omega)) (λq hq=>?_) ⟨_,_,_,m6.bel hbf⟩ (hE.trans (Ext.bel hbf))
  have h1:=hO2.lo hq
  cases hρq:ρ' q with
  |none=>rfl
  |some r0=>have:=m6.lt q (by rw [hρq];simp);omega
 ·refine ⟨λe=>(nomatch e),λk v' e=>?_⟩
  cases e
  have hb2:Bel w6 W2:=hb1.grown hg λr e=>by cases e;omega
  have hcl:(ks++[y]).length<=dom.length:=zGT hi2.nd λz hz=>(hd.2 z).2 (hi2.dom z hz)
  rw [zg,List.length_singleton] at hcl
  have hl1:=hi1.size
  have hO2:xf base W2 x (L0++(ks.filterMap t.wr).filterMap (zG0 (Y3 fr to))):=hO1.notwalk (B:=R) hg λr e=>by
   cases e
   obtain ⟨c,sb,hb⟩:=hi1.blk
   exact ⟨zU _,_,hb,rfl⟩
  refine zIp hi2 hy zJC ?_
  refine zBa zBl rfl QR (cs:=v.cells) rfl rfl rfl λC W3 b3 hC _=>?_
  refine yA zCI zDR hC.at v.Gone rfl ?_
  have hi3:=hi2.bel b3
  have hO3:=hO2.bel b3
  have hb3:=hb2.trans b3
  have hg2:=hg.size;have s3:=b3.le
  have hvk:=hky y v hy
  have hfm:(ks++[y]).filterMap t.wr=ks.filterMap t.wr++[v]:=by rw [List.filterMap_append,List.filterMap_cons_some hy];rfl
  have hlen:(L0++(ks.filterMap t.wr).filterMap (zG0 (Y3 fr to))).length<=4096+256:=by
   rw [zg]
   have h1:=List.length_filterMap_le (zG0 (Y3 fr to)) (ks.filterMap t.wr)
   have h2:=List.length_filterMap_le t.wr ks
   have h3:L0.length<=4096:=hfl
   omega
  have J:∀ (c:Bool) W4,Bel W3 W4->(c=true↔v.Gone=false/\Qr (Y3 fr to) v.Key=true)->zAe x (λx13' w'=>(∃ ks,zBM zZ zJ.v w' (g n).wb R t.wr ks/\xf base w' x13' (L0++(ks.filterMap t.wr).filterMap (zG0 (Y3 fr to)))/\Bel w6 w'/\R<w'.heap.size)/\dom.length - zH6 w' R<dom.length - zH6 W R) (zJ.v v) (ptrA C) c W4:=by
   intro c W4 b4 hc
   unfold zAe
   have hi4:=hi3.bel b4
   have s4:=b4.le
   have hlen4:=hi4.size
   rw [zg,List.length_singleton] at hlen4
   refine ⟨λh1=>?_,λh1=>?_⟩
   ·have hpk:zG0 (Y3 fr to) v=some ⟨v.Key,v.Val⟩:=by unfold zG0;rw [if_pos (hc.1 h1)]
    have hC4:=hC.bel b4
    refine yA xm zh hC4.at v.Key rfl ?_
    refine yA zBR zh hC4.at v.Val rfl ?_
    refine ⟨⟨v.Key,v.Val⟩,W4,by kernel_rfl,?_⟩
    refine zJ4 (w0:=w6) (hO3.bel b4) (hb3.trans b4) (by omega) (by omega) (by omega) λx' W5 hO5 hb5 g5=>?_
    have hi5:=zNC hi4 (KeepsWalks.row g5 λr hr=>(hO3.bel b4).isRow hr)
    have hlen5:=hi5.size
    rw [zg,List.length_singleton] at hlen5
    refine ⟨⟨ks++[y],hi5,?_,hb5,by have:=g5.size;omega⟩,by omega⟩
    rw [hfm,List.filterMap_append,List.filterMap_cons_some hpk,← List.append_assoc];exact hO5
   ·have hpk:zG0 (Y3 fr to) v=none:=by unfold zG0;rw [if_neg λh2=>by rw [hc.2 h2] at h1;cases h1]
    refine ⟨⟨ks++[y],hi4,?_,hb3.trans b4,by omega⟩,by omega⟩
    rw [hfm,List.filterMap_append,List.filterMap_cons_none hpk,List.filterMap_nil,List.append_nil];exact hO3.bel b4
  refine ⟨λh1=>?_,λh1=>J false W3 (Bel.refl _) ⟨λh=>(nomatch h),λh2=>by rw [h2.1] at h1;cases h1⟩⟩
  have hgf:v.Gone=false:=by simpa using h1
  have hY3:=hY6.bel hb3
  refine Za zF2 (Y3 fr to) rfl hY3.at rfl ?_
  refine yA xm zh hC.at v.Key rfl ?_
  exact zOb (Y3 fr to) v.Key W3 λW4 b4=>J _ W4 b4 ⟨λh=>⟨hgf,h⟩,λh=>h.2⟩
end Go.Proofs.YtealcoghiaeiiaaGreat.VG
set_option linter.unusedVariables false
set_option linter.unusedSimpArgs false
namespace Go.Proofs.YtealcoghiaeiiaaGreat.VG
open Go.VB Go.Proofs Go.RowKit
theorem zHc {s:St} {n:Int} {f:Tx->St × Ans} (h:s.tx n=none):onTx s n f=(s,errA 11):=by unfold onTx;rw [h]
theorem zBu {s:St} {n:Int} {f:Tx->St × Ans} {t:Tx} (h:s.tx n=some t):onTx s n f=f t:=by unfold onTx;rw [h]
theorem Ext.new {ρ ρ':Own} {w W w':World} {B:Nat} (h:Ext ρ w ρ' W) (hg:W.grownBy w' (some B)) (hB:w.heap.size<=B):Ext ρ w ρ' w':=
 ⟨h.out.trans (T:=λk=>k=B) (Out.row hg λk hk=>by cases hk;exact .inl rfl) λi hi e=>by omega,h.same⟩
theorem Mgr.other {ρ:Own} {w w':World} {b:Nat} {s:St} {B:Nat} (h:Mgr ρ w b s) (hg:w.grownBy w' (some B)) (hB:ρ B=none):Mgr ρ w' b s:=
 let ⟨vs,mb,g,m⟩:=h
 ⟨vs,mb,g,m.keep hg.size λk hk=>hg.block k (m.lt k hk) λe=>by cases e;exact hk hB⟩
section
variable {ρ:Own} {w:World} {b:Nat} {s:St}
theorem zOy (h:Mgr ρ w b s) (hI:Inv s) (hg:s.given<4611686018427387904) {k:Int->Int->World->Prop} (H:∀ ρ' w',Mgr ρ' w' b (zCR s).1->Ext ρ w ρ' w'->k (zCR s).2.tx (zCR s).2.why w'):
  Cl zA zGW [.pointer (ptrA b)].toArray w (λe w'=>∃ (r0 r1:Int),e=.returned (.tuple [.int .i64 r0,.int .i64 r1].toArray)/\k r0 r1 w'):=by
 refine zLF h hI.giv hg hI.free (λks hd hl=>?_) λks ρ' w' hd hl hM hE=>?_
 ·have e:zCR s=(s,errA 3):=by unfold zCR;rw [zKa hd,if_pos hl]
  rw [e] at H;exact H ρ w h (Ext.refl _ _)
 ·have e:zCR s=(zFg s,{ans0 with tx:=s.given+1}):=by unfold zCR;rw [zKa hd,if_neg (by omega)]
  rw [e] at H;exact H ρ' w' hM hE
theorem zS2 (h:Mgr ρ w b s) (n:Int) (key:ByteArray) {k:ByteArray->Bool->Int->World->Prop} (H:∀ ρ' w',Mgr ρ' w' b (getD s n key).1->Ext ρ w ρ' w'->k (getD s n key).2.val (getD s n key).2.is (getD s n key).2.why w'):
  Cl zA zGs [.pointer (ptrA b),.int .i64 n,.string key].toArray w (λe w'=>∃ (r0:ByteArray) (r1:Bool) (r2:Int),e=.returned (.tuple [.string r0,.bool r1,.int .i64 r2].toArray)/\k r0 r1 r2 w'):=by
 unfold getD at H
 refine zOR h n key (λht=>?_) (λt ht h1=>?_) (λt ht h1 h2=>?_) λt ρ' w' ht h1 h2 hM hE=>?_
 ·rw [zHc ht] at H;exact H ρ w h (Ext.refl _ _)
 ·rw [zBu ht] at H;unfold getT at H;rw [if_pos h1] at H;exact H ρ w h (Ext.refl _ _)
 ·rw [zBu ht] at H;unfold getT at H;rw [if_neg h1,if_pos h2] at H;exact H ρ w h (Ext.refl _ _)
 ·rw [zBu ht] at H;unfold getT at H;rw [if_neg h1,if_neg (by omega)] at H;exact H ρ' w' hM hE
theorem zQs (h:Mgr ρ w b s) (hI:Inv s) (n:Int) (fr to:ByteArray) {k:Sl->Int->World->Prop}
  (H:∀ r ρ' w',Mgr ρ' w' b (zGm s n fr to).1->Ext ρ w ρ' w'->xf w.heap.size w' r (zGm s n fr to).2.pairs->(∀ q,(Sl.v r).ownBlock=some q->ρ' q=none)->k r (zGm s n fr to).2.why w'):
  Cl zA zGi [.pointer (ptrA b),.int .i64 n,.string fr,.string to].toArray w (λe w'=>∃ (r0:Sl) (r1:Int),e=.returned (.tuple [Sl.v r0,.int .i64 r1].toArray)/\k r0 r1 w'):=by
 unfold zGm at H
 refine zRF h hI n fr to (λht w' hb=>?_) (λt ht h1 w' hb=>?_) λt r ys ρ' w' ht h1 hS hO hρ hM hE=>?_
 ·rw [zHc ht] at H;exact H Sl.none ρ w' (h.bel hb) (Ext.bel hb) (OwnS.nil _ _ _ _ _) λq e=>by cases e
 ·rw [zBu ht] at H;unfold zL4 at H;rw [if_pos h1] at H;exact H Sl.none ρ w' (h.bel hb) (Ext.bel hb) (OwnS.nil _ _ _ _ _) λq e=>by cases e
 ·rw [zBu ht] at H;unfold zL4 at H;rw [if_neg (by omega),zJc hS] at H;exact H r ρ' w' hM hE hO hρ
theorem zOn (h:Mgr ρ w b s) (n:Int) (x:Wri) {k:Int->World->Prop} (H:∀ ρ' w',Mgr ρ' w' b (zCs s n x).1->Ext ρ w ρ' w'->k (zCs s n x).2.why w'):
  Cl zA zCg [.pointer (ptrA b),.int .i64 n,zJ.v x].toArray w (λe w'=>∃ r0:Int,e=.returned (.int .i64 r0)/\k r0 w'):=by
 unfold zCs at H
 refine zLO h n x (λht w' hb=>?_) (λt ht h1 w' hb=>?_) (λt ks ht h1 h2 hd h3 w' hb=>?_) λt w' ht h1 h2 hM hE=>?_
 ·rw [zHc ht] at H;exact H ρ w' (h.bel hb) (Ext.bel hb)
 ·rw [zBu ht] at H;unfold zKU at H;rw [if_pos h1] at H;exact H ρ w' (h.bel hb) (Ext.bel hb)
 ·rw [zBu ht] at H;unfold zKU at H;rw [if_neg h1,if_pos ⟨h2,by rw [zKa hd];exact h3⟩] at H;exact H ρ w' (h.bel hb) (Ext.bel hb)
 ·rw [zBu ht] at H;unfold zKU at H
  rw [if_neg h1,if_neg λh3=>by obtain ⟨ks,hd,hl⟩:=h2 h3.1;have:=h3.2;rw [zKa hd] at this;omega] at H
  exact H ρ w' hM hE
theorem zSt (h:Mgr ρ w b s) (n:Int) (key val:ByteArray) {k:Int->World->Prop} (H:∀ ρ' w',Mgr ρ' w' b (zCs s n ⟨key,val,false⟩).1->Ext ρ w ρ' w'->k (zCs s n ⟨key,val,false⟩).2.why w'):
  Cl zA zGz [.pointer (ptrA b),.int .i64 n,.string key,.string val].toArray w (λe w'=>∃ r0:Int,e=.returned (.int .i64 r0)/\k r0 w'):=zN1 n key val (zOn h n _ H)
theorem zQD (h:Mgr ρ w b s) (n:Int) (key:ByteArray) {k:Int->World->Prop} (H:∀ ρ' w',Mgr ρ' w' b (zCs s n ⟨key,noB,true⟩).1->Ext ρ w ρ' w'->k (zCs s n ⟨key,noB,true⟩).2.why w'):
  Cl zA zGA [.pointer (ptrA b),.int .i64 n,.string key].toArray w (λe w'=>∃ r0:Int,e=.returned (.int .i64 r0)/\k r0 w'):=zPk n key (zOn h n _ H)
theorem zRi (h:Mgr ρ w b s) (n:Int) {k:Int->World->Prop} (H:∀ ρ' w',Mgr ρ' w' b (zHT s n).1->Ext ρ w ρ' w'->k (zHT s n).2.why w'):
  Cl zA zGS [.pointer (ptrA b),.int .i64 n].toArray w (λe w'=>∃ r0:Int,e=.returned (.int .i64 r0)/\k r0 w'):=by
 unfold zHT at H
 refine zP0 h n (λht=>?_) λt ρ' w' ht hM hE=>?_
 ·rw [zHc ht] at H;exact H ρ w h (Ext.refl _ _)
 ·rw [zBu ht] at H;exact H ρ' w' hM hE
theorem zQ3 (h:Mgr ρ w b s) (hI:Inv s) (hn:s.now<4611686018427387904) (n:Int) {k:Sl->Int->Int->World->Prop}
  (H:∀ r ρ' w',Mgr ρ' w' b (zCf s n).1->Ext ρ w ρ' w'->zDr w.heap.size w' r (zCf s n).2.done->(∀ q,(Sl.v r).ownBlock=some q->ρ' q=none)->k r (zCf s n).2.time (zCf s n).2.why w'):
  Cl zA zF9 [.pointer (ptrA b),.int .i64 n].toArray w (λe w'=>∃ (r0:Sl) (r1:Int) (r2:Int),e=.returned (.tuple [Sl.v r0,.int .u64 r1,.int .i64 r2].toArray)/\k r0 r1 r2 w'):=by
 unfold zCf at H
 have h0:=hI.lo;have h1:=hI.lonow
 have nob:∀ {w':World},zDr w.heap.size w' Sl.none []:=OwnS.nil _ _ _ _ _
 have nor:∀ {ρ':Own} q,(Sl.v Sl.none).ownBlock=some q->ρ' q=none:=λq e=>by cases e
 refine zKc h n (λt ht=>⟨(hI.txok n t ht).few,(hI.txok n t ht).keyed⟩) (by omega) hn (λht=>?_) (λt ρ' w' ht hc hM hE=>?_) (λt ρ' w' ht hc he hM hE=>?_) (λt ys ρ' w' ht hc hS he hp hM hE=>?_) λt ys r ρ' w' ht hc hS he hp hM hE hr hq=>?_
 ·rw [zHc ht] at H;exact H Sl.none ρ w h (Ext.refl _ _) nob nor
 ·rw [zBu ht] at H;unfold zHv at H;rw [if_pos hc] at H;exact H Sl.none ρ' w' hM hE nob nor
 ·rw [zBu ht] at H;unfold zHv at H;rw [if_neg (by simp [hc]),if_pos he] at H;exact H Sl.none ρ' w' hM hE nob nor
 ·rw [zBu ht] at H;unfold zHv at H
  rw [if_neg (by simp [hc]),if_neg (λh=>by obtain ⟨x,hx⟩:=he;exact hx (h x)),zKT hS,if_pos hp] at H
  exact H Sl.none ρ' w' hM hE nob nor
 ·rw [zBu ht] at H;unfold zHv at H
  rw [if_neg (by simp [hc]),if_neg (λh=>by obtain ⟨x,hx⟩:=he;exact hx (h x)),zKT hS,if_neg (by simp [hp])] at H
  exact H r ρ' w' hM hE hr λq h=>(hq q h).2.2
end
structure zKX (base:Nat) (ρ:Own) (w:World) (y:zW) (a:Ans):Prop where
 why:y.Why=a.why
 tx:y.Tx=a.tx
 val:y.Val=a.val
 is:y.Is=a.is
 pairs:xf base w y.Pairs a.pairs
 done:zDr base w y.Done a.done
 time:y.Time=a.time
 rp:∀ q,(Sl.v y.Pairs).ownBlock=some q->ρ q=none
 rd:∀ q,(Sl.v y.Done).ownBlock=some q->ρ q=none
theorem zKX.ans {base:Nat} {ρ:Own} {w:World} {y:zW} {a:Ans} (h:zKX base ρ w y a):zJW w y a:=⟨h.why,h.tx,h.val,h.is,xf.rd h.pairs,zDr.rd h.done,h.time⟩
abbrev zAns:zW:=⟨15,0,noB,false,Sl.none,Sl.none,0⟩
structure Mid (ρ:Own) (w:World) (b A C:Nat) (s':St) (p:Sl) (ps:List Pai) (d:Sl) (ds:List Wri) (ρ':Own) (W:World) (cs:List Value):Prop where
 mgr:Mgr ρ' W b s'
 ext:Ext ρ w ρ' W
 rA:ρ' A=none
 rC:ρ' C=none
 a:∃ z:List Value,z.length=7/\Row W A z Qo
 c:Row W C cs Qo
 pr:xf w.heap.size W p ps
 dn:zDr w.heap.size W d ds
 rp:∀ q,(Sl.v p).ownBlock=some q->ρ' q=none
 rd:∀ q,(Sl.v d).ownBlock=some q->ρ' q=none
theorem Mid.st {ρ:Own} {w:World} {b A C:Nat} {s':St} {p:Sl} {ps:List Pai} {d:Sl} {ds:List Wri} {ρ':Own} {W:World} {cs:List Value} (h:Mid ρ w b A C s' p ps d ds ρ' W cs) {t:Nat} (hA:One zA t) {off:Nat} {v:Value}
  (hv:v.cells.toList=[v]) (hl:off<cs.length) (h1:v.oneCell'=true) (hC:w.heap.size<=C) (hAC:A≠C) {k:World->Prop} (H:∀ W',Mid ρ w b A C s' p ps d ds ρ' W' (cs.take off++[v]++cs.drop (off+1))->k W'):
  opU zA (zK t (.pointer (some ((⟨C,0,none⟩:Addr).add off))) v) W k:=by
 refine zIu hA h.c hv hl h1 λW' hR hg=>H W' ?_
 obtain ⟨z,hz,ha⟩:=h.a
 exact {h with
  mgr:=h.mgr.other hg h.rC
  ext:=h.ext.new hg hC
  a:=⟨z,hz,ha.grown hg (by simpa using hAC.symm)⟩
  c:=hR
  pr:=h.pr.kept hg (.inr (OwnS.ne_row h.pr h.c (by decide)))
  dn:=h.dn.kept hg (.inr (OwnS.ne_row h.dn h.c (by decide)))}
theorem zQk (s:St):(zCR s).2={ans0 with tx:=(zCR s).2.tx,why:=(zCR s).2.why}:=by unfold zCR;split<;>rfl
theorem zSB (s:St) (n:Int) (key:ByteArray):(getD s n key).2={ans0 with val:=(getD s n key).2.val,is:=(getD s n key).2.is,why:=(getD s n key).2.why}:=by
 unfold getD onTx
 cases s.tx n with
 |none=>rfl
 |some t=>simp only;unfold getT;split<;>(try split)<;>rfl
theorem zRl (s:St) (n:Int) (fr to:ByteArray):(zGm s n fr to).2={ans0 with pairs:=(zGm s n fr to).2.pairs,why:=(zGm s n fr to).2.why}:=by
 unfold zGm onTx
 cases s.tx n with
 |none=>rfl
 |some t=>simp only;unfold zL4;split<;>rfl
theorem zNi (s:St) (n:Int) (x:Wri):(zCs s n x).2={ans0 with why:=(zCs s n x).2.why}:=by
 unfold zCs onTx
 cases s.tx n with
 |none=>rfl
 |some t=>simp only;unfold zKU;split<;>(try split)<;>rfl
theorem zPY (s:St) (n:Int):(zCf s n).2={ans0 with done:=(zCf s n).2.done,time:=(zCf s n).2.time,why:=(zCf s n).2.why}:=by
 unfold zCf onTx
 cases s.tx n with
 |none=>rfl
 |some t=>simp only;unfold zHv;split<;>(try split)<;>(try split)<;>rfl
theorem zQj (s:St) (n:Int):(zHT s n).2={ans0 with why:=(zHT s n).2.why}:=by
 unfold zHT onTx
 cases s.tx n<;>rfl
theorem zTA {ρ:Own} {w:World} {b:Nat} {s:St} (h:Mgr ρ w b s) (hI:Inv s) (hn:s.now<4611686018427387904) (hg:s.given<4611686018427387904) (x:za) {k:zW->World->Prop}
  (H:∀ y ρ' w',Mgr ρ' w' b (doS s x).1->Ext ρ w ρ' w'->zKX w.heap.size ρ' w' y (doS s x).2->k y w'):
  Cl zA zKR [.pointer (ptrA b),za.v x].toArray w (λe w'=>∃ r0:zW,e=.returned (zW.v r0)/\k r0 w'):=by
 refine zJz (ptrA b) x w k ?_
 unfold zGL
 refine zAo (cs:=x.cells) rfl λX w1 b1 hX hX0=>?_
 refine zFL zEl λA w2 b2 hA hA0=>?_
 refine ⟨zAns,w2,by kernel_rfl,?_⟩
 refine zBa zEl rfl Zk (cs:=zAns.cells) rfl rfl rfl λC w3 b3 hC hC0=>?_
 have b13:=b2.trans b3
 have b03:=b1.trans b13
 replace hX:=hX.bel b13
 have hA2:=hA.lt
 replace hA:=hA.bel b3
 have s1:=b1.le;have s2:=b2.le
 have hlt:=h.lt
 have hnone:∀ q,w.heap.size<=q->ρ q=none:=λq hq=>by
  cases hρ:ρ q with
  |none=>rfl
  |some r=>have:=hlt q (by rw [hρ];simp);omega
 have h3:=h.bel b03
 have hXl:=hX.lt;have hAl:=hA.lt;have hCl:=hC.lt
 have hAC:A≠C:=by omega
 refine zLR _ ⟨λh=>(nomatch h),λ_=>?_⟩
 have J1:∀ W (y:zW) ρ',Ext ρ w ρ' W->ρ' A=none->Mgr ρ' W b (doS s x).1->(∃ z:List Value,z.length=7/\Row W A z Qo)->Row W C y.cells Qo->zKX w.heap.size ρ' W y (doS s x).2->xD k (ptrA A) (ptrA C) W:=by
  rintro W y ρ' g hρA hM ⟨z,hz,hAW⟩ hCW hy
  unfold xD
  refine Za Zk y rfl hCW.at rfl ?_
  have hone:y.cells.all (·.oneCell')=true:=by
   obtain ⟨a1,a2,a3,a4,⟨a5,a51,a52⟩,⟨a6,a61,a62⟩,a7⟩:=y
   cases a5<;>cases a6<;>rfl
  refine zI1 Zk hAW hz rfl hone λw5 hA5 g5=>?_
  refine R.agg Zk y rfl hA5.at rfl (H y ρ' w5 (hM.other g5 hρA) (g.new g5 (by omega)) ?_)
  have hp:(Sl.v y.Pairs).ownBlock≠some A:=OwnS.ne_row hy.pairs hAW (by decide)
  have hd:(Sl.v y.Done).ownBlock≠some A:=OwnS.ne_row hy.done hAW (by decide)
  exact {hy with pairs:=hy.pairs.kept g5 (.inr hp),done:=hy.done.kept g5 (.inr hd)}
 have mid:∀ {ρ' W s' p ps d ds},Mgr ρ' W b s'->Ext ρ w3 ρ' W->xf w3.heap.size W p ps->zDr w3.heap.size W d ds->(∀ q,(Sl.v p).ownBlock=some q->ρ' q=none)->(∀ q,(Sl.v d).ownBlock=some q->ρ' q=none)->Mid ρ w b A C s' p ps d ds ρ' W zAns.cells:=by
  intro ρ' W s' p ps d ds hM g hp hd hrp hrd
  have s03:=b03.le
  exact {
   mgr:=hM
   ext:=(Ext.bel b03).trans g
   rA:=(g.same A hAl).trans (hnone A (by omega))
   rC:=(g.same C hCl).trans (hnone C (by omega))
   a:=⟨_,rfl,hA.keep (g.blk hAl (hnone A (by omega)))⟩
   c:=hC.keep (g.blk hCl (hnone C (by omega)))
   pr:=hp.low s03
   dn:=hd.low s03
   rp:=hrp
   rd:=hrd}
 have nop:∀ {W},xf w3.heap.size W Sl.none []:=OwnS.nil _ _ _ _ _
 have nod:∀ {W},zDr w3.heap.size W Sl.none []:=OwnS.nil _ _ _ _ _
 have nor:∀ {ρ':Own} q,(Sl.v Sl.none).ownBlock=some q->ρ' q=none:=λq e=>by cases e
 have hwC:w.heap.size<=C:=by omega
 have fin:∀ {ρ' W s' p ps d ds} {y:zW} {a:Ans},doS s x=(s',a)->Mid ρ w b A C s' p ps d ds ρ' W y.cells->y.Why=a.why->y.Tx=a.tx->y.Val=a.val->y.Is=a.is->y.Pairs=p->a.pairs=ps->y.Done=d->a.done=ds->y.Time=a.time->xD k (ptrA A) (ptrA C) W:=by
  intro ρ' W s' p ps d ds y a he M e1 e2 e3 e4 e5 e6 e7 e8 e9
  refine J1 W y ρ' M.ext M.rA (by rw [he];exact M.mgr) M.a M.c ?_
  rw [he]
  subst e5;subst e6;subst e7;subst e8
  exact ⟨e1,e2,e3,e4,M.pr,M.dn,e9,M.rp,M.rd⟩
 have slv:∀ z:Sl,(Sl.v z).cells.toList=[Sl.v z]/\(Sl.v z).oneCell'=true:=λz=>by cases z with|mk a l c=>cases a<;>exact ⟨rfl,rfl⟩
 refine yA ZL zBN hX.at x.Kind rfl ⟨λhk=>?_,λk1=>?_⟩
 ·have he:doS s x=zCR s:=by unfold doS;rw [if_pos hk]
  refine zOy h3 hI hg λρ' W hM g=>?_
  have M:=mid hM g nop nod nor nor
  refine ⟨_,W,zJL _ _,?_⟩
  refine M.st zAM rfl (by show _<7;decide) rfl hwC hAC λW1 M=>?_
  refine ⟨_,W1,ZD _ _,?_⟩
  refine M.st (off:=0) zBk rfl (by show _<7;decide) rfl hwC hAC λW2 M=>?_
  exact fin (y:=⟨(zCR s).2.why,(zCR s).2.tx,noB,false,Sl.none,Sl.none,0⟩) (a:={ans0 with tx:=(zCR s).2.tx,why:=(zCR s).2.why}) (by rw [he,← zQk]) M rfl rfl rfl rfl rfl rfl rfl rfl rfl
 refine yA ZL zBN hX.at x.Kind rfl ⟨λhk=>?_,λk2=>?_⟩
 ·have he:doS s x=getD s x.Tx x.Key:=by unfold doS;rw [if_neg k1,if_pos hk]
  refine yA Zu zAM hX.at x.Tx rfl ?_
  refine yA Z9 zh hX.at x.Key rfl ?_
  refine zS2 h3 x.Tx x.Key λρ' W hM g=>?_
  have M:=mid hM g nop nod nor nor
  refine ⟨_,W,zGY _ _,?_⟩
  refine M.st zh rfl (by show _<7;decide) rfl hwC hAC λW1 M=>?_
  refine ⟨_,W1,zGk _ _,?_⟩
  refine M.st zDR rfl (by show _<7;decide) rfl hwC hAC λW2 M=>?_
  refine ⟨_,W2,ZD _ _,?_⟩
  refine M.st (off:=0) zBk rfl (by show _<7;decide) rfl hwC hAC λW3 M=>?_
  exact fin (y:=⟨(getD s x.Tx x.Key).2.why,0,(getD s x.Tx x.Key).2.val,(getD s x.Tx x.Key).2.is,Sl.none,Sl.none,0⟩) (a:={ans0 with val:=(getD s x.Tx x.Key).2.val,is:=(getD s x.Tx x.Key).2.is,why:=(getD s x.Tx x.Key).2.why}) (by rw [he,← zSB]) M rfl rfl rfl rfl rfl rfl rfl rfl rfl
 refine yA ZL zBN hX.at x.Kind rfl ⟨λhk=>?_,λk3=>?_⟩
 ·have he:doS s x=zGm s x.Tx x.Key x.To:=by unfold doS;rw [if_neg k1,if_neg k2,if_pos hk]
  refine yA Zu zAM hX.at x.Tx rfl ?_
  refine yA Z9 zh hX.at x.Key rfl ?_
  refine yA zHK zh hX.at x.To rfl ?_
  refine zQs h3 hI x.Tx x.Key x.To λr ρ' W hM g hO hρ=>?_
  have M:=mid hM g hO nod hρ nor
  refine ⟨_,W,zFq _ _,?_⟩
  refine M.st zEV (slv r).1 (by show _<7;decide) (slv r).2 hwC hAC λW1 M=>?_
  refine ⟨_,W1,ZD _ _,?_⟩
  refine M.st (off:=0) zBk rfl (by show _<7;decide) rfl hwC hAC λW2 M=>?_
  exact fin (y:=⟨(zGm s x.Tx x.Key x.To).2.why,0,noB,false,r,Sl.none,0⟩) (a:={ans0 with pairs:=(zGm s x.Tx x.Key x.To).2.pairs,why:=(zGm s x.Tx x.Key x.To).2.why}) (by rw [he,← zRl]) M rfl rfl rfl rfl rfl rfl rfl rfl rfl
 refine yA ZL zBN hX.at x.Kind rfl ⟨λhk=>?_,λk4=>?_⟩
 ·have he:doS s x=zCs s x.Tx ⟨x.Key,x.Val,false⟩:=by unfold doS;rw [if_neg k1,if_neg k2,if_neg k3,if_pos hk]
  refine yA Zu zAM hX.at x.Tx rfl ?_
  refine yA Z9 zh hX.at x.Key rfl ?_
  refine yA zG8 zh hX.at x.Val rfl ?_
  refine zSt h3 x.Tx x.Key x.Val λρ' W hM g=>?_
  have M:=mid hM g nop nod nor nor
  refine ⟨_,W,ZD _ _,?_⟩
  refine M.st (off:=0) zBk rfl (by show _<7;decide) rfl hwC hAC λW2 M=>?_
  exact fin (y:=⟨(zCs s x.Tx ⟨x.Key,x.Val,false⟩).2.why,0,noB,false,Sl.none,Sl.none,0⟩) (a:={ans0 with why:=(zCs s x.Tx ⟨x.Key,x.Val,false⟩).2.why}) (by rw [he,← zNi]) M rfl rfl rfl rfl rfl rfl rfl rfl rfl
 refine yA ZL zBN hX.at x.Kind rfl ⟨λhk=>?_,λk5=>?_⟩
 ·have he:doS s x=zCs s x.Tx ⟨x.Key,noB,true⟩:=by unfold doS;rw [if_neg k1,if_neg k2,if_neg k3,if_neg k4,if_pos hk]
  refine yA Zu zAM hX.at x.Tx rfl ?_
  refine yA Z9 zh hX.at x.Key rfl ?_
  refine zQD h3 x.Tx x.Key λρ' W hM g=>?_
  have M:=mid hM g nop nod nor nor
  refine ⟨_,W,ZD _ _,?_⟩
  refine M.st (off:=0) zBk rfl (by show _<7;decide) rfl hwC hAC λW2 M=>?_
  exact fin (y:=⟨(zCs s x.Tx ⟨x.Key,noB,true⟩).2.why,0,noB,false,Sl.none,Sl.none,0⟩) (a:={ans0 with why:=(zCs s x.Tx ⟨x.Key,noB,true⟩).2.why}) (by rw [he,← zNi]) M rfl rfl rfl rfl rfl rfl rfl rfl rfl
 refine yA ZL zBN hX.at x.Kind rfl ⟨λhk=>?_,λk6=>?_⟩
 ·have he:doS s x=zCf s x.Tx:=by unfold doS;rw [if_neg k1,if_neg k2,if_neg k3,if_neg k4,if_neg k5,if_pos hk]
  refine yA Zu zAM hX.at x.Tx rfl ?_
  refine zQ3 h3 hI hn x.Tx λr ρ' W hM g hO hρ=>?_
  have M:=mid hM g nop hO nor hρ
  refine ⟨_,W,zIS _ _,?_⟩
  refine M.st zFI (slv r).1 (by show _<7;decide) (slv r).2 hwC hAC λW1 M=>?_
  refine ⟨_,W1,zIO _ _,?_⟩
  refine M.st yO rfl (by show _<7;decide) rfl hwC hAC λW2 M=>?_
  refine ⟨_,W2,ZD _ _,?_⟩
  refine M.st (off:=0) zBk rfl (by show _<7;decide) rfl hwC hAC λW3 M=>?_
  exact fin (y:=⟨(zCf s x.Tx).2.why,0,noB,false,Sl.none,r,(zCf s x.Tx).2.time⟩) (a:={ans0 with done:=(zCf s x.Tx).2.done,time:=(zCf s x.Tx).2.time,why:=(zCf s x.Tx).2.why}) (by rw [he,← zPY]) M rfl rfl rfl rfl rfl rfl rfl rfl rfl
 refine yA ZL zBN hX.at x.Kind rfl ⟨λhk=>?_,λk7=>?_⟩
 ·have he:doS s x=zHT s x.Tx:=by unfold doS;rw [if_neg k1,if_neg k2,if_neg k3,if_neg k4,if_neg k5,if_neg k6,if_pos hk]
  refine yA Zu zAM hX.at x.Tx rfl ?_
  refine zRi h3 x.Tx λρ' W hM g=>?_
  have M:=mid hM g nop nod nor nor
  refine ⟨_,W,ZD _ _,?_⟩
  refine M.st (off:=0) zBk rfl (by show _<7;decide) rfl hwC hAC λW2 M=>?_
  exact fin (y:=⟨(zHT s x.Tx).2.why,0,noB,false,Sl.none,Sl.none,0⟩) (a:={ans0 with why:=(zHT s x.Tx).2.why}) (by rw [he,← zQj]) M rfl rfl rfl rfl rfl rfl rfl rfl rfl
 ·have he:doS s x=(s,errA 15):=by unfold doS;rw [if_neg k1,if_neg k2,if_neg k3,if_neg k4,if_neg k5,if_neg k6,if_neg k7]
  exact fin (y:=zAns) he (mid h3 (Ext.refl _ _) nop nod nor nor) rfl rfl rfl rfl rfl rfl rfl rfl rfl
end Go.Proofs.YtealcoghiaeiiaaGreat.VG
set_option linter.unusedVariables false
set_option linter.unusedSimpArgs false
namespace Go.Proofs.YtealcoghiaeiiaaGreat.VG
open Go.VB Go.Proofs Go.RowKit
theorem zMA {l:List Pai} (h:zHB l l.length):∀ d i x y,l[i]?=some x->l[i+d+1]?=some y->sLt x.Key y.Key=true
 |0,i,x,y,hx,hy=>h i x y (List.getElem?_eq_some_iff.1 hy).1 hx hy
 |d+1,i,x,y,hx,hy=>by
  obtain ⟨z,hz⟩:=getE (l:=l) (n:=i+d+1) (by have:=(List.getElem?_eq_some_iff.1 hy).1;omega)
  exact zHs (zMA h d i x z hx hz) (h (i+d+1) z y (by have:=(List.getElem?_eq_some_iff.1 hy).1;omega) hz (by rw [show i+d+1+1=i+(d+1)+1 by omega];exact hy))
theorem zMd {l:List Pai} (h:zHB l l.length):Rise (λp:Pai=>p.Key) l:=by
 rw [Rise,List.pairwise_iff_getElem]
 intro i j hi hj hij
 refine zMA h (j - i - 1) i _ _ (List.getElem?_eq_getElem hi) ?_
 rw [show i+(j - i - 1)+1=j by omega];exact List.getElem?_eq_getElem hj
theorem zQU {l:List Pai} (h1:l.length<=4096) (h2:l.any zIH=false) (h3:zHB l l.length):Inv (newS l) where
 good:=by
  refine zK4 (by show (l.map verP).length<=4096;rw [List.length_map];exact h1) (by show (1:Int)<=_;decide) (λx hx=>?_) ?_
  ·obtain ⟨p,hp,rfl⟩:=List.mem_map.1 hx
   have hl:zIH p=false:=by
    cases hpl:zIH p with
    |false=>rfl
    |true=>rw [List.any_eq_true.2 ⟨p,hp,hpl⟩] at h2;cases h2
   unfold zIH at hl
   simp only [Bool.or_eq_false_iff,decide_eq_false_iff_not] at hl
   exact ⟨by show (1:Int)<=1;decide,by show (1:Int)<=_;decide,λh=>(nomatch h),by show p.Key.size<=256;omega,by show p.Val.size<=512;omega⟩
  ·show (l.map verP).Pairwise vlt
   rw [List.pairwise_map]
   exact (zMd h3).imp λ{a b} h=>.inl h
 lo:=Int.le_refl 1
 lonow:=Int.le_refl 1
 past x hx:=by
  obtain ⟨p,hp,rfl⟩:=List.mem_map.1 hx
  exact Int.le_refl _
 giv:=Int.le_refl 0
 dom:=⟨[],⟨List.nodup_nil,λk=>by simp [newS]⟩,by simp⟩
 num n t ht:=(nomatch ht)
 tim n t ht:=(nomatch ht)
 txok n t ht:=(nomatch ht)
theorem zPy {l:List Pai} (h3:zHB l l.length):zAK (λk=>val (newS l).l k 1) l:=by
 have hs:(l.map verP).Pairwise vlt:=by rw [List.pairwise_map];exact (zMd h3).imp λ{a b} h=>.inl h
 refine ⟨zMd h3,λp=>?_⟩
 show p∈l↔val (l.map verP) p.Key 1=some p.Val
 constructor
 ·intro hp
  have:sees (l.map verP) p.Key 1=some (verP p):=zIr hs (List.mem_map.2 ⟨p,hp,rfl⟩) rfl (Int.le_refl _) λy hy _ h=>h
  unfold val;rw [this];rfl
 ·intro h
  unfold val at h
  cases hse:sees (l.map verP) p.Key 1 with
  |none=>rw [hse] at h;cases h
  |some x=>
   rw [hse] at h
   obtain ⟨g1,g2,_⟩:=zHi hse
   obtain ⟨q,hq,rfl⟩:=List.mem_map.1 g1
   have e1:q.Val=p.Val:=Option.some.inj h
   have e2:q.Key=p.Key:=g2
   obtain ⟨a,c⟩:=p;obtain ⟨a',c'⟩:=q
   simp at e1 e2;subst e1;subst e2;exact hq
abbrev zTn (w:World) (s:Sl) (l:List za):Prop:=Rd za.cells 5 w s l
end Go.Proofs.YtealcoghiaeiiaaGreat.VG
set_option linter.unusedVariables false
set_option linter.unusedSimpArgs false
namespace Go.Proofs.YtealcoghiaeiiaaGreat.VG
open Go.VB Go.Proofs Go.RowKit
theorem zPU (w:Wri) (o:List Pai × Bool) (p:Pai):(zCd w o p).1.length<=o.1.length+2:=by
 unfold zCd
 simp only [zg]
 split<;>split<;>simp
theorem zOG {α β:Type} {l:List α} {n:Nat} {x:α} (h:l[n]?=some x) (f:β->α->β) (o:β):(l.take (n+1)).foldl f o=f ((l.take n).foldl f o) x:=by
 rw [zA0 h,List.foldl_append];rfl
theorem zO6 {base:Nat} {w0 w:World} {s y:Sl} {l m:List Pai} {k:Sl->World->Prop} (hO:xf base w s l) (hy:zHL w y m) (hB:Bel w0 w) (hb:w0.heap.size<=base) (hbw:base<=w.heap.size) (room:l.length+m.length<=4398046511104)
  (H:∀ s' w',xf base w' s' (l++m)->Bel w0 w'->w.grownBy w' (Sl.v s).ownBlock->k s' w'):
  opE zA Sl.v (Builtin.append_ #[YK,YK] YK [Sl.v s,Sl.v y].toArray) w k:=
 zOf hO hy (λ_=>rfl) (λ_=>rfl) (by decide) YR zIJ rfl (by decide) hB hb hbw (by omega) H
theorem zPr {w:World} {x0:Sl} {l:List Pai} (h:zHL w x0 l) (x:Wri) (hl:l.length<=1000000000) {k:Sl->World->Prop} (H:∀ r w',xf w.heap.size w' r (zIv l x)->Bel w w'->k r w'):
  Cl zA zJH [Sl.v x0,zJ.v x].toArray w (λe w'=>∃ r0:Sl,e=.returned (Sl.v r0)/\k r0 w'):=by
 have hbig:=h.big;have hcap:=h.cap;have hlen:=h.len
 refine zJR x0 x w k ?_
 unfold zFP
 refine zAo (cs:=x.cells) rfl λB w1 b1 hX hB=>?_
 have s1:=b1.le
 have hBl:=hX.lt
 refine yA zCI zDR hX.at x.Gone rfl ?_
 refine ⟨λa c i W=>∃ n:Nat,i=(n:Int)/\n<=l.length/\Bel w1 W/\xf w1.heap.size W a ((l.take n).foldl (zCd x) ([],x.Gone)).1/\c=((l.take n).foldl (zCd x) ([],x.Gone)).2/\((l.take n).foldl (zCd x) ([],x.Gone)).1.length<=2*n,λ_ _ i _=>(x0.len - i).toNat,
  ⟨0,rfl,by omega,Bel.refl _,OwnS.nil _ _ _ _ _,rfl,by simp⟩,?_⟩
 rintro a c i W ⟨n,rfl,hn,hb,hO,rfl,hol⟩
 unfold zCB
 have app:∀ (W1:World) (s:Sl) (o:List Pai) (y:Pai) (k:Sl->World->Prop),Bel w1 W1->xf w1.heap.size W1 s o->o.length<=2000000002->(∀ s' W2,xf w1.heap.size W2 s' (o++[y])->Bel w1 W2->W1.grownBy W2 (Sl.v s).ownBlock->k s' W2)->
   opE zA Sl.v (ze YK 1 [(0,zM.v y)].toArray) W1 (λy w=>opE zA Sl.v (Builtin.append_ #[YK,YK] YK [Sl.v s,Sl.v y].toArray) w k):=
  λW1 s o y k hb1 hO1 hl1 hk=>zJ4 (w0:=w1) hO1 hb1 (zU _) hb1.le (by omega) λs' W2 h1 h2 h3=>hk s' W2 h1 h2 h3
 generalize hgo:(l.take n).foldl (zCd x) ([],x.Gone)=o at hO hol
 refine ⟨λhc=>?_,λhc=>?_⟩
 ·obtain ⟨p,hp⟩:=getE (l:=l) (n:=n) (by omega)
  have hfold:(l.take (n+1)).foldl (zCd x) ([],x.Gone)=zCd x o p:=by rw [zOG hp,hgo]
  have hsl:=zPU x o p
  refine zDA ((h.bel b1).bel hb) YR Zh (by omega) (x:=p) (by simpa using hp) λad hA=>?_
  refine Za YA p rfl hA rfl ?_
  refine zBa zF0 rfl YA (cs:=p.cells) rfl rfl rfl λC W1 b2 hP hC=>?_
  have hb1:=hb.trans b2
  have hX1:=hX.bel hb1
  have hO1:=hO.bel b2
  refine yA Y4 zh hP.at p.Key rfl ?_
  refine yA xm zh hX1.at x.Key rfl ?_
  have J3:∀ (W2:World) (s:Sl) (o1:List Pai) (c:Bool),Bel w1 W2->Row W2 C p.cells zAG->xf w1.heap.size W2 s o1->o1.length<=2*n+1->zCd x o p=(o1++(if p.Key=x.Key then [] else [p]),c)->
    zAj (ptrA B) (n:Int) (λa' c' i' w'=>(∃ n:Nat,i'=(n:Int)/\n<=l.length/\Bel w1 w'/\xf w1.heap.size w' a' ((l.take n).foldl (zCd x) ([],x.Gone)).1/\c'=((l.take n).foldl (zCd x) ([],x.Gone)).2/\((l.take n).foldl (zCd x) ([],x.Gone)).1.length<=2*n)/\(x0.len - i').toNat<(x0.len - (n:Int)).toNat) (ptrA C) s c W2:=by
   intro W2 s o1 c hb2 hP2 hO2 hl2 hst
   have hX2:=hX.bel hb2
   unfold zAj
   refine yA Y4 zh hP2.at p.Key rfl ?_
   refine yA xm zh hX2.at x.Key rfl ⟨λhne=>?_,λhe=>?_⟩
   ·rw [if_neg hne] at hst
    refine Za YA p rfl hP2.at rfl ?_
    refine app W2 s o1 p _ hb2 hO2 (by omega) λs' W3 hO3 hb3 _=>?_
    unfold zAh
    rw [wr64 (by omega) (by omega)]
    refine ⟨⟨n+1,by omega,by omega,hb3,?_,?_,?_⟩,by omega⟩
    ·rw [hfold,hst];exact hO3
    ·rw [hfold,hst]
    ·rw [hfold];omega
   ·have he:=Classical.not_not.1 he
    rw [if_pos he,List.append_nil] at hst
    unfold zAh
    rw [wr64 (by omega) (by omega)]
    refine ⟨⟨n+1,by omega,by omega,hb2,?_,?_,?_⟩,by omega⟩
    ·rw [hfold,hst];exact hO2
    ·rw [hfold,hst]
    ·rw [hfold];omega
  have J4:∀ (c:Bool),(c=true->sLt p.Key x.Key=false/\o.2=false)->(c=false->¬ (sLt p.Key x.Key=false/\o.2=false))->zAk (ptrA B) a o.2 (n:Int) (λa' c' i' w'=>(∃ n:Nat,i'=(n:Int)/\n<=l.length/\Bel w1 w'/\xf w1.heap.size w' a' ((l.take n).foldl (zCd x) ([],x.Gone)).1/\c'=((l.take n).foldl (zCd x) ([],x.Gone)).2/\((l.take n).foldl (zCd x) ([],x.Gone)).1.length<=2*n)/\(x0.len - i').toNat<(x0.len - (n:Int)).toNat) (ptrA C) c W1:=by
   intro c hc1 hc0
   unfold zAk
   refine ⟨λht=>?_,λhf=>?_⟩
   ·obtain ⟨h1,h2⟩:=hc1 ht
    refine yA xm zh hX1.at x.Key rfl ?_
    refine yA zBR zh hX1.at x.Val rfl ?_
    refine ⟨⟨x.Key,x.Val⟩,W1,by kernel_rfl,?_⟩
    refine app W1 a o.1 ⟨x.Key,x.Val⟩ _ hb1 hO1 (by omega) λs' W2 hO2 hb2 hg2=>?_
    refine J3 W2 s' (o.1++[⟨x.Key,x.Val⟩]) true hb2 (hP.grown hg2 λe=>by have:=hO.lt e;omega) hO2 (by rw [zg,List.length_singleton];omega) ?_
    unfold zCd
    rw [if_pos ⟨h1,h2⟩,h1]
    simp
   ·have h1:=hc0 hf
    refine J3 W1 a o.1 o.2 hb1 hP hO1 (by omega) ?_
    unfold zCd
    rw [if_neg h1]
    cases h2:sLt p.Key x.Key with
    |true=>simp
    |false=>cases h3:o.2 with
     |true=>simp
     |false=>exact absurd ⟨h2,h3⟩ h1
  refine ⟨λhlt=>J4 _ (λh1=>⟨by simpa using hlt,by simpa using h1⟩) λh1 h2=>(by rw [h2.2] at h1;cases h1),λhlt=>J4 false (λh=>(nomatch h)) λ_ h2=>(by rw [h2.1] at hlt;cases hlt)⟩
 ·obtain rfl:n=l.length:=by omega
  rw [List.take_length] at hgo
  have hend:zIv l x=end8 x o:=by unfold zIv;rw [hgo]
  rw [hend] at H
  unfold end8 at H
  have hX1:=hX.bel hb
  unfold zBd
  refine ⟨λh1=>?_,λh1=>?_⟩
  ·have h2:o.2=false:=by simpa using h1
   rw [if_neg (by simp [h2])] at H
   refine yA xm zh hX1.at x.Key rfl ?_
   refine yA zBR zh hX1.at x.Val rfl ?_
   refine ⟨⟨x.Key,x.Val⟩,W,by kernel_rfl,?_⟩
   refine app W a o.1 ⟨x.Key,x.Val⟩ _ hb hO (by omega) λs' W2 hO2 hb2 _=>H s' W2 (hO2.low (by omega)) (b1.trans hb2)
  ·have h2:o.2=true:=by simpa using h1
   rw [if_pos h2] at H
   exact H a W (hO.low (by omega)) (b1.trans hb)
theorem zOi {w:World} {x0 x1:Sl} {l:List Pai} {ws:List Wri} (h:zHL w x0 l) (h':zJV w x1 ws) (hl:l.length+ws.length<=1000000000) {k:Sl->World->Prop} (H:∀ r w',xf w.heap.size w' r (allL l ws)->Bel w w'->k r w'):
  Cl zA zJr [Sl.v x0,Sl.v x1].toArray w (λe w'=>∃ r0:Sl,e=.returned (Sl.v r0)/\k r0 w'):=by
 have hbig:=h'.big;have hcap:=h'.cap;have hlen:=h'.len
 refine zJo x0 x1 w k ?_
 unfold zFu
 have b1:=Bel.alloc w (.cells #[] zAG)
 refine ⟨_,_,zIy w,?_⟩
 refine zO6 (w0:=w) (OwnS.lit0 (zU _)) (h.bel b1) b1 (zU _) (by rw [size_alloc'];omega) (by simp;omega) λr w2 hO b2 _=>?_
 rw [List.nil_append] at hO
 refine ⟨λa i W=>∃ n:Nat,i=(n:Int)/\n<=ws.length/\Bel w W/\xf w.heap.size W a (allL l (ws.take n))/\(allL l (ws.take n)).length<=l.length+n,λ_ i _=>(x1.len - i).toNat,
  ⟨0,rfl,by omega,b2,hO,by simp [allL]⟩,?_⟩
 rintro a i W ⟨n,rfl,hn,hb,hO,hol⟩
 unfold zCL
 refine ⟨λhc=>?_,λhc=>?_⟩
 ·obtain ⟨x,hx⟩:=getE (l:=ws) (n:=n) (by omega)
  have hfold:allL l (ws.take (n+1))=zIv (allL l (ws.take n)) x:=by unfold allL;rw [zA0 hx,List.foldl_append];rfl
  refine zDA (h'.bel hb) zBW zCa (by omega) (x:=x) (by simpa using hx) λad hA=>?_
  refine Za QR x rfl hA rfl ?_
  refine zBa zBl rfl QR (cs:=x.cells) rfl rfl rfl λC W1 b3 hX hC=>?_
  refine Za QR x rfl hX.at rfl ?_
  refine zPr (xf.rd (hO.bel b3)) x (by omega) λr' W2 hO2 b4=>?_
  have hwl:=zLz (allL l (ws.take n)) x
  have hsz:=(hb.trans b3).le
  rw [wr64 (by omega) (by omega)]
  exact ⟨⟨n+1,by omega,by omega,(hb.trans b3).trans b4,by rw [hfold];exact hO2.low hsz,by rw [hfold];omega⟩,by dsimp only;omega⟩
 ·obtain rfl:n=ws.length:=by omega
  rw [List.take_length] at hO
  exact H a W hO hb
theorem zRb {w:World} {x0:Sl} {l:List Pai} {f:ByteArray->Option ByteArray} (h:zHL w x0 l) (hf:zAK f l) (key:ByteArray) {k:ByteArray->Bool->World->Prop} (H:∀ w',Bel w w'->k ((f key).getD noB) (f key).isSome w'):
  Cl zA zJq [Sl.v x0,.string key].toArray w (λe w'=>∃ (r0:ByteArray) (r1:Bool),e=.returned (.tuple [.string r0,.bool r1].toArray)/\k r0 r1 w'):=by
 have hbig:=h.big;have hcap:=h.cap;have hlen:=h.len
 refine zJg x0 key w k ?_
 unfold zFw
 refine ⟨λi W=>∃ n:Nat,i=(n:Int)/\n<=l.length/\Bel w W/\∀ p∈l.take n,p.Key≠key,λi _=>(x0.len - i).toNat,⟨0,rfl,by omega,Bel.refl _,by simp⟩,?_⟩
 rintro i W ⟨n,rfl,hn,hb,hno⟩
 unfold zCK
 refine ⟨λhc=>?_,λhc=>?_⟩
 ·obtain ⟨p,hp⟩:=getE (l:=l) (n:=n) (by omega)
  refine zDA (h.bel hb) YR Zh (by omega) (x:=p) (by simpa using hp) λad hA=>?_
  refine Za YA p rfl hA rfl ?_
  refine zBa zF0 rfl YA (cs:=p.cells) rfl rfl rfl λC W1 b2 hP hC=>?_
  refine yA Y4 zh hP.at p.Key rfl ⟨λhe=>?_,λhne=>?_⟩
  ·refine yA zGM zh hP.at p.Val rfl ?_
   have h1:=(hf.2 p).1 (List.mem_of_getElem? hp)
   rw [he] at h1
   have:=H W1 (hb.trans b2)
   rw [h1] at this;exact this
  ·rw [wr64 (by omega) (by omega)]
   refine ⟨⟨n+1,by omega,by omega,hb.trans b2,λq hq=>?_⟩,by dsimp only;omega⟩
   rw [zA0 hp] at hq
   rcases List.mem_append.1 hq with h1|h1
   ·exact hno q h1
   ·simp at h1;subst h1;exact hne
 ·obtain rfl:n=l.length:=by omega
  rw [List.take_length] at hno
  have h1:f key=none:=by
   cases hk:f key with
   |none=>rfl
   |some v=>exact absurd rfl (hno ⟨key,v⟩ ((hf.2 ⟨key,v⟩).2 hk))
  have:=H W hb
  rw [h1] at this;exact this
theorem zQv {w:World} {x0:Sl} {l:List Pai} (h:zHL w x0 l) (fr to:ByteArray) (most:Int) (hm:(l.length:Int)<=most) (hl:l.length<=1000000000) {k:Sl->Int->World->Prop} (H:∀ r w',xf w.heap.size w' r (l.filter λp=>Qr (Y3 fr to) p.Key)->Bel w w'->k r 0 w'):
  Cl zA zJJ [Sl.v x0,.string fr,.string to,.int .i64 most].toArray w (λe w'=>∃ (r0:Sl) (r1:Int),e=.returned (.tuple [Sl.v r0,.int .i64 r1].toArray)/\k r0 r1 w'):=by
 have hbig:=h.big;have hcap:=h.cap;have hlen:=h.len
 refine zJP x0 fr to most w k ?_
 unfold zFU
 refine ⟨λhc=>by omega,λ_=>?_⟩
 have hfl:∀ n,((l.take n).filter λp=>Qr (Y3 fr to) p.Key).length<=n:=λn=>zn (List.length_filter_le _ _) (by rw [List.length_take];omega)
 refine ⟨λa i W=>∃ n:Nat,i=(n:Int)/\n<=l.length/\Bel w W/\xf w.heap.size W a ((l.take n).filter λp=>Qr (Y3 fr to) p.Key),λ_ i _=>(x0.len - i).toNat,⟨0,rfl,by omega,Bel.refl _,OwnS.nil _ _ _ _ _⟩,?_⟩
 rintro a i W ⟨n,rfl,hn,hb,hO⟩
 unfold zB9
 refine ⟨λhc=>?_,λhc=>?_⟩
 ·obtain ⟨p,hp⟩:=getE (l:=l) (n:=n) (by omega)
  have hfold:(l.take (n+1)).filter (λp=>Qr (Y3 fr to) p.Key)=(l.take n).filter (λp=>Qr (Y3 fr to) p.Key)++(if Qr (Y3 fr to) p.Key=true then [p] else []):=by
   rw [zA0 hp,List.filter_append];cases hpe:Qr (Y3 fr to) p.Key<;>simp [hpe]
  have hfn:=hfl n
  have hol:=hO.len
  refine zDA (h.bel hb) YR Zh (by omega) (x:=p) (by simpa using hp) λad hA=>?_
  refine Za YA p rfl hA rfl ?_
  refine zBa zF0 rfl YA (cs:=p.cells) rfl rfl rfl λC W1 b2 hP hC=>?_
  have hO1:=hO.bel b2
  have hb1:=hb.trans b2
  have J4:∀ (c:Bool),c=Qr (Y3 fr to) p.Key->zAg a (n:Int) (λa' i' w'=>(∃ n:Nat,i'=(n:Int)/\n<=l.length/\Bel w w'/\xf w.heap.size w' a' ((l.take n).filter λp=>Qr (Y3 fr to) p.Key))/\(x0.len - i').toNat<(x0.len - (n:Int)).toNat) (ptrA C) c W1:=by
   intro c hc
   unfold zAg
   refine ⟨λht=>?_,λhf=>?_⟩
   ·rw [hc] at ht
    refine Za YA p rfl hP.at rfl ?_
    refine zJ4 (w0:=w) hO1 hb1 (zU _) hb1.le (by omega) λs' W2 hO2 hb2 _=>?_
    unfold zAf
    rw [wr64 (by omega) (by omega)]
    exact ⟨⟨n+1,by omega,by omega,hb2,by rw [hfold,if_pos ht];exact hO2⟩,by omega⟩
   ·rw [hc] at hf
    unfold zAf
    rw [wr64 (by omega) (by omega)]
    exact ⟨⟨n+1,by omega,by omega,hb1,by rw [hfold,if_neg (by simp [hf]),List.append_nil];exact hO1⟩,by omega⟩
  have J3:∀ (c:Bool),c=Qr (Y3 fr to) p.Key->zAd most a (n:Int) (λa' i' w'=>(∃ n:Nat,i'=(n:Int)/\n<=l.length/\Bel w w'/\xf w.heap.size w' a' ((l.take n).filter λp=>Qr (Y3 fr to) p.Key))/\(x0.len - i').toNat<(x0.len - (n:Int)).toNat) (ptrA C) c W1:=by
   intro c hc
   unfold zAd
   exact ⟨λht=>J4 _ (by rw [decide_eq_true (by omega),← hc,ht]),λhf=>J4 false (by rw [← hc,hf])⟩
  refine yA Y4 zh hP.at p.Key rfl ⟨λh1=>?_,λh1=>?_⟩
  ·have hs:Qr (Y3 fr to) p.Key=(decide (to=noB)||sLt p.Key to):=by unfold Qr;rw [if_neg (by simp),h1,Bool.true_and]
   refine ⟨λh2=>?_,λh2=>?_⟩
   ·unfold zAi
    exact J3 true (by rw [hs,show decide (to=noB)=true from decide_eq_true h2];rfl)
   ·refine yA Y4 zh hP.at p.Key rfl ?_
    unfold zAi
    exact J3 _ (by rw [hs,show decide (to=noB)=false from decide_eq_false h2];rfl)
  ·exact J3 false (by unfold Qr;rw [if_neg (by simp),h1,Bool.false_and])
 ·obtain rfl:n=l.length:=by omega
  rw [List.take_length] at hO
  exact H a W hO hb
end Go.Proofs.YtealcoghiaeiiaaGreat.VG
set_option linter.unusedVariables false
set_option linter.unusedSimpArgs false
namespace Go.Proofs.YtealcoghiaeiiaaGreat.VG
open Go.VB Go.Proofs Go.RowKit
open Classical in
noncomputable def newE (l:List Pai):Int:=if 4096<l.length then 3 else if l.any zIH=true then 4 else if ¬ zHB l l.length then 2 else 0
theorem zS0 {w:World} {x:Sl} {l:List Pai} (hd:zHL w x l) {k:Option Addr->Int->World->Prop} (H0:∀ w',newE l≠0->Bel w w'->k none (newE l) w')
  (H1:∀ b ρ w',newE l=0->Inv (newS l)->zAK (λk=>val (newS l).l k 1) l->Bel w w'->Mgr ρ w' b (newS l)->(∀ k,k<w.heap.size->ρ k=none)->k (ptrA b) 0 w'):
  Cl zA zLH [Sl.v x].toArray w (λe w'=>∃ (r0:Option Addr) (r1:Int),e=.returned (.tuple [.pointer r0,.int .i64 r1].toArray)/\k r0 r1 w'):=by
 refine zPv hd (λh=>?_) (λh1 h2 w' hb=>?_) (λh1 h2 h3 w' hb=>?_) λh1 h2 h3 b ρ w' hb hM hρ=>?_
 ·have e:newE l=3:=by unfold newE;rw [if_pos h]
  rw [e] at H0;exact H0 w (by decide) (Bel.refl _)
 ·have e:newE l=4:=by unfold newE;rw [if_neg (by omega),if_pos h2]
  rw [e] at H0;exact H0 w' (by decide) hb
 ·have e:newE l=2:=by unfold newE;rw [if_neg (by omega),if_neg (by simp [h2]),if_pos h3]
  rw [e] at H0;exact H0 w' (by decide) hb
 ·have e:newE l=0:=by unfold newE;rw [if_neg (by omega),if_neg (by simp [h2]),if_neg (by simp [h3])]
  exact H1 b ρ w' e (zQU h1 h2 h3) (zPy h3) hb hM hρ
theorem zQP {l:List Pai} (h:newE l=0):l.length<=4096:=by
 unfold newE at h
 split at h
 ·exact absurd h (by decide)
 ·omega
structure Two (w:World) (ba bb:Nat) (sa sb:St) (ρa ρb:Own) (W:World):Prop where
 ma:Mgr ρa W ba sa
 mb:Mgr ρb W bb sb
 dis:∀ k,ρa k≠none->ρb k=none
 bel:Bel w W
 la:∀ k,k<w.heap.size->ρa k=none
 lb:∀ k,k<w.heap.size->ρb k=none
section
variable {w W W':World} {ba bb:Nat} {sa sb s':St} {ρa ρb ρ':Own}
theorem Two.swap (h:Two w ba bb sa sb ρa ρb W):Two w bb ba sb sa ρb ρa W:=⟨h.mb,h.ma,λk hk=>Classical.byContradiction λh1=>hk (h.dis k h1),h.bel,h.lb,h.la⟩
theorem Two.a (h:Two w ba bb sa sb ρa ρb W) (hM:Mgr ρ' W' ba s') (hE:Ext ρa W ρ' W'):Two w ba bb s' sb ρ' ρb W' where
 ma:=hM
 mb:=h.mb.out hE.out λk hk=>h.dis k hk
 dis k hk:=by
  by_cases hk1:k<W.heap.size
  ·exact h.dis k (by rw [← hE.same k hk1];exact hk)
  ·cases hb:ρb k with
   |none=>rfl
   |some r=>have:=h.mb.lt k (by rw [hb];simp);omega
 bel:=hE.base h.bel h.la
 la:=hE.clear h.bel.le h.la
 lb:=h.lb
theorem Two.b (h:Two w ba bb sa sb ρa ρb W) (hM:Mgr ρ' W' bb s') (hE:Ext ρb W ρ' W'):Two w ba bb sa s' ρa ρ' W':=(h.swap.a hM hE).swap
theorem Two.more (h:Two w ba bb sa sb ρa ρb W) (hb:Bel W W'):Two w ba bb sa sb ρa ρb W':=⟨h.ma.bel hb,h.mb.bel hb,h.dis,h.bel.trans hb,h.la,h.lb⟩
theorem Two.new (h:Two w ba bb sa sb ρa ρb W) {k:Nat} (hk:W.heap.size<=k):ρa k=none/\ρb k=none:=by
 constructor
 ·cases hb:ρa k with
  |none=>rfl
  |some r=>have:=h.ma.lt k (by rw [hb];simp);omega
 ·cases hb:ρb k with
  |none=>rfl
  |some r=>have:=h.mb.lt k (by rw [hb];simp);omega
end
theorem zJW.keep {w w':World} {x:zW} {a:Ans} (h:zJW w x a) (hp:∀ q,(Sl.v x.Pairs).ownBlock=some q->w'.heap[q]?=w.heap[q]?) (hd:∀ q,(Sl.v x.Done).ownBlock=some q->w'.heap[q]?=w.heap[q]?):zJW w' x a:=
 ⟨h.1,h.2.1,h.2.2.1,h.2.2.2.1,h.2.2.2.2.1.keep hp,h.2.2.2.2.2.1.keep hd,h.2.2.2.2.2.2⟩
theorem zKX.ext {base:Nat} {ρ ρb ρ':Own} {W W':World} {y:zW} {a:Ans} (h:zKX base ρ W y a) (hE:Ext ρb W ρ' W') (hn:∀ k,base<=k->ρb k=none):zJW W' y a:=
 h.ans.keep (λq hq=>hE.blk (h.pairs.lt hq) (hn q (h.pairs.lo hq))) (λq hq=>hE.blk (h.done.lt hq) (hn q (h.done.lo hq)))
theorem zPC (y:zW):y.cells.all (·.oneCell')=true:=by
 obtain ⟨a1,a2,a3,a4,⟨a5,a51,a52⟩,⟨a6,a61,a62⟩,a7⟩:=y
 cases a5<;>cases a6<;>rfl
end Go.Proofs.YtealcoghiaeiiaaGreat.VG
set_option linter.unusedVariables false
set_option linter.unusedSimpArgs false
namespace Go.Proofs.YtealcoghiaeiiaaGreat.VG
open Go.VB Go.Proofs Go.RowKit
theorem zQ6 {l:List Ver} {low:Int} (hg:zCt l low) (T:Int):zAK (λk=>val l k T) (zC0 l noB noB T l.length):=by
 have h:=zKm hg.sorted noB noB T
 rw [zOj] at h;exact h
theorem zKp {s s':St} {a:Ans} {x:za} (h:Inv s) (hn:s.now+1<=maxT) (e:Eff s x s' a):
  (∀ key,val s'.l key s'.now=val s.l key s.now)/\a.done=[]∨∃ t,x.Kind=6/\s.tx x.Tx=some t/\s.l.any (conf t)=false/\a.why=0/\zFe t.wr a.done/\∀ key,val s'.l key s'.now=ovl t.wr (λk=>val s.l k s.now) key:=by
 have ho:∀ (u:St) n,(zAB u n).now=u.now:=λu n=>by unfold zAB zKH;split<;>rfl
 have hov:∀ n key,val (zAB s n).l key (zAB s n).now=val s.l key s.now:=λn key=>by
  rw [ho];exact zHp h (by omega) _ (by have:=(zHj h (by omega) n).lonow;rw [ho] at this;exact this) key
 cases e with
 |no e _=>exact .inl ⟨λ_=>rfl,rfl⟩
 |beg _ hc=>exact .inl ⟨λ_=>rfl,rfl⟩
 |get t _ ht _ hl=>exact .inl ⟨λ_=>rfl,rfl⟩
 |scan t _ ht hl=>exact .inl ⟨λ_=>rfl,rfl⟩
 |write t y hk ht hy hl=>exact .inl ⟨λ_=>rfl,rfl⟩
 |abort t _ ht=>exact .inl ⟨hov _,rfl⟩
 |fail t e _ ht _=>exact .inl ⟨hov _,rfl⟩
 |empty t _ ht _ _=>exact .inl ⟨hov _,rfl⟩
 |comm t ys k ht hc hS _ hp=>
  refine .inr ⟨t,k,ht,hc,rfl,hS,λkey=>?_⟩
  have hi:=zMk h hp
  rw [ho,zHp hi hn _ (by have:=(zHj hi hn x.Tx).lonow;rw [ho] at this;exact this) key]
  exact zNl hp h.past hS (h.txok _ t ht).keyed key
theorem _root_.Go.VB.OwnS.ext {α:Type} {c:α->List Value} {n e base:Nat} {ρ ρ':Own} {W W':World} {s:Sl} {xs:List α} (h:OwnS c n e base W s xs) (hρ:∀ q,(Sl.v s).ownBlock=some q->ρ q=none) (hE:Ext ρ W ρ' W'):
  OwnS c n e base W' s xs/\∀ q,(Sl.v s).ownBlock=some q->ρ' q=none:=
 ⟨h.keep λq hq=>hE.blk (h.lt hq) (hρ q hq),λq hq=>(hE.same q (h.lt hq)).trans (hρ q hq)⟩
theorem Mgr.new {ρ:Own} {w:World} {b:Nat} {s:St} (h:Mgr ρ w b s) {k:Nat} (hk:w.heap.size<=k):ρ k=none:=by
 cases hb:ρ k with
 |none=>rfl
 |some r=>have:=h.lt k (by rw [hb];simp);omega
structure Bl (s:St) (os:List Int):Prop where
 inv:Inv s
 dom:Doms s.tx os
 rds:∀ n t,s.tx n=some t->t.reads=[]
theorem Bl.len {s:St} {os:List Int} (h:Bl s os):os.length<=16:=by
 obtain ⟨ks,hd,hl⟩:=h.inv.dom
 rw [zM2 h.dom hd];exact hl
end Go.Proofs.YtealcoghiaeiiaaGreat.VG
set_option linter.unusedVariables false
set_option linter.unusedSimpArgs false
namespace Go.Proofs.YtealcoghiaeiiaaGreat.VG
open Go.VB Go.Proofs Go.RowKit
abbrev Wrs:=ByteArray->Option Wri
abbrev Op1:=za × Ans
noncomputable def zGU (wr:Wrs) (p:Op1):Wrs:=if p.2.why=0 then (if p.1.Kind=4 then upd wr p.1.Key ⟨p.1.Key,p.1.Val,false⟩ else if p.1.Kind=5 then upd wr p.1.Key ⟨p.1.Key,noB,true⟩ else wr) else wr
def zJ9 (p:Op1):List Spn:=if p.2.why=0 then (if p.1.Kind=2 then [zHP p.1.Key] else if p.1.Kind=3 then [Y3 p.1.Key p.1.To] else []) else []
noncomputable def wrOf (ops:List Op1):Wrs:=ops.foldl zGU (λ_=>none)
def rsOf (ops:List Op1):List Spn:=ops.flatMap zJ9
structure WrOk (wr:Wrs):Prop where
 few:∃ ks,Doms wr ks/\ks.length<=256
 keyed:∀ k x,wr k=some x->x.Key=k
structure zQT (g:ByteArray->Option ByteArray) (wr:Wrs) (p:Op1):Prop where
 get:p.2.why=0->p.1.Kind=2->p.2.val=(ovl wr g p.1.Key).getD noB/\p.2.is=(ovl wr g p.1.Key).isSome
 scan:p.2.why=0->p.1.Kind=3->p.2.pairs=zHq (cut (Y3 p.1.Key p.1.To) (ovl wr g))
def zF6 (g:ByteArray->Option ByteArray) (ops:List Op1):Prop:=∀ n p,ops[n]?=some p->zQT g (wrOf (ops.take n)) p/\WrOk (wrOf (ops.take (n+1)))
theorem zGr (ops:List Op1) (p:Op1):wrOf (ops++[p])=zGU (wrOf ops) p:=by unfold wrOf;rw [List.foldl_append];rfl
theorem zJF (ops:List Op1) (p:Op1):rsOf (ops++[p])=rsOf ops++zJ9 p:=by unfold rsOf;rw [List.flatMap_append];simp
theorem zKd:WrOk (λ_=>none):=⟨⟨[],⟨List.nodup_nil,λk=>by simp⟩,by simp⟩,λk x h=>(nomatch h)⟩
theorem zF6.nil (g:ByteArray->Option ByteArray):zF6 g []:=λn p h=>by simp at h
theorem zF6.snoc {g:ByteArray->Option ByteArray} {ops:List Op1} (h:zF6 g ops) {p:Op1} (h1:zQT g (wrOf ops) p) (h2:WrOk (wrOf (ops++[p]))):zF6 g (ops++[p]):=λn q hq=>by
 rcases Nat.lt_or_ge n ops.length with h3|h3
 ·rw [List.getElem?_append_left h3] at hq
  rw [List.take_append_of_le_length (by omega),List.take_append_of_le_length (by omega)]
  exact h n q hq
 ·have hl:=(List.getElem?_eq_some_iff.1 hq).1
  rw [zg,List.length_singleton] at hl
  obtain rfl:n=ops.length:=by omega
  rw [List.getElem?_append_right (zU _),Nat.sub_self] at hq
  simp at hq;subst hq
  rw [List.take_append_of_le_length (zU _),List.take_length,List.take_of_length_le (l:=ops++[p]) (by simp)]
  exact ⟨h1,h2⟩
theorem zF6.wr {g:ByteArray->Option ByteArray} {ops:List Op1} (h:zF6 g ops):WrOk (wrOf ops):=by
 cases hl:ops.length with
 |zero=>rw [List.eq_nil_of_length_eq_zero hl];exact zKd
 |succ n=>
  obtain ⟨p,hp⟩:=getE (l:=ops) (n:=n) (by omega)
  have:=(h n p hp).2
  rwa [List.take_of_length_le (by omega)] at this
theorem zF6.take {g:ByteArray->Option ByteArray} {ops:List Op1} (h:zF6 g ops) (n:Nat):WrOk (wrOf (ops.take n)):=by
 cases n with
 |zero=>simpa [wrOf] using zKd
 |succ n=>
  rcases Nat.lt_or_ge n ops.length with h1|h1
  ·obtain ⟨p,hp⟩:=getE (l:=ops) (n:=n) h1
   exact (h n p hp).2
  ·rw [List.take_of_length_le (by omega)];exact h.wr
def Mute (p:Op1):Prop:=p.2.why≠0∨p.1.Kind<2∨5<p.1.Kind
theorem zMc {p:Op1} (h:Mute p) (wr:Wrs):zGU wr p=wr:=by
 unfold zGU
 split
 ·rename_i h0
  rcases h with h|h|h
  ·exact absurd h0 h
  ·rw [if_neg (by omega),if_neg (by omega)]
  ·rw [if_neg (by omega),if_neg (by omega)]
 ·rfl
theorem zQE {p:Op1} (h:Mute p):zJ9 p=[]:=by
 unfold zJ9
 split
 ·rename_i h0
  rcases h with h|h|h
  ·exact absurd h0 h
  ·rw [if_neg (by omega),if_neg (by omega)]
  ·rw [if_neg (by omega),if_neg (by omega)]
 ·rfl
theorem zMH {p:Op1} (h:Mute p) (g:ByteArray->Option ByteArray) (wr:Wrs):zQT g wr p:=by
 refine ⟨λh0 hk=>?_,λh0 hk=>?_⟩<;>rcases h with h|h|h<;>first|exact absurd h0 h|omega
theorem zOm {wr:Wrs} {f:ByteArray->Option ByteArray} {x:Wri}:ovl (upd wr x.Key x) f=zJX (ovl wr f) x:=by
 funext k
 unfold zJX
 by_cases hk:k=x.Key
 ·rw [if_pos hk,hk]
  unfold ovl;rw [Ql]
 ·rw [if_neg hk]
  unfold ovl;rw [yU _ _ hk]
theorem zPT {wr:Wrs} {f g:ByteArray->Option ByteArray} {x:Spn} (h:∀ k,Qr x k=true->f k=g k):cut x (ovl wr f)=cut x (ovl wr g):=by
 funext k
 unfold cut
 split
 ·rename_i hs
  unfold ovl
  cases wr k with
  |some y=>rfl
  |none=>exact h k hs
 ·rfl
theorem zPa (key:ByteArray):Qr (zHP key) key=true:=by unfold Qr;simp
theorem zNF:∀ (ws:List Wri) (l:List Pai),(allL l ws).length<=l.length+ws.length
 |[],l=>by simp [allL]
 |w::ws,l=>by
  have h2:=zNF ws (zIv l w)
  have h3:=zLz l w
  show (allL (zIv l w) ws).length<=_
  rw [List.length_cons];omega
theorem zRM {wr:Wrs} (hw:WrOk wr) {f:ByteArray->Option ByteArray} {l:List Pai} (hl:zAK f l) {m:List Pai} (hm:zAK (ovl wr f) m):m.length<=l.length+256:=by
 obtain ⟨ks,hd,hk⟩:=hw.few
 have hS:=(zNR hd hw.keyed)
 have h1:zAK (ovl wr f) (allL l (zHA wr)):=by rw [← zQO hS.1 hw.keyed];exact zLu _ hl
 rw [hm.one h1]
 have h4:=zNF (zHA wr) l
 omega
structure zHG (s:St) (n:Int) (ops:List Op1):Prop where
 is:∀ t,s.tx n=some t->zF6 (λk=>val s.l k t.began) ops/\t.wr=wrOf ops/\t.reads=rsOf ops
 yet:s.given<n->∀ p∈ops,Mute p
theorem zQa {ops:List Op1} (h:∀ p∈ops,Mute p) (g:ByteArray->Option ByteArray):zF6 g ops/\wrOf ops=(λ_=>none)/\rsOf ops=[]:=by
 have hw:∀ (l:List Op1),(∀ p∈l,Mute p)->wrOf l=λ_=>none:=by
  intro l
  unfold wrOf
  generalize (λ_=>none:Wrs)=w0
  induction l generalizing w0 with
  |nil=>intro _;rfl
  |cons p l ih=>intro hl;rw [List.foldl_cons,zMc (hl p (by simp))];exact ih w0 λq hq=>hl q (by simp [hq])
 refine ⟨λn p hp=>?_,hw ops h,?_⟩
 ·refine ⟨zMH (h p (List.mem_of_getElem? hp)) _ _,?_⟩
  rw [hw _ λq hq=>h q (List.mem_of_mem_take hq)]
  exact zKd
 ·unfold rsOf
  rw [List.flatMap_eq_nil_iff]
  exact λp hp=>zQE (h p hp)
theorem zRZ {t:Tx} (h:TxOk t):WrOk t.wr:=⟨h.few,h.keyed⟩
def zO9 (s:St) (n:Int):Prop:=∀ t,s.tx n=some t->t.reads=[]/\t.wr=λ_=>none
theorem zO9.noted {s:St} {n:Int} (h:zO9 s n):zHG s n []:=⟨λt ht=>⟨zF6.nil _,(h t ht).2,(h t ht).1⟩,λ_ p hp=>by simp at hp⟩
theorem zHG.fresh {s:St} {n:Int} (h:zHG s n []):zO9 s n:=λt ht=>⟨(h.is t ht).2.2,(h.is t ht).2.1⟩
theorem zRg {s s':St} {a:Ans} {x:za} (h:Inv s) (hn:s.now+1<=maxT) (e:Eff s x s' a) {n:Int} {t:Tx} (ht:s.tx n=some t) {t':Tx} (ht':s'.tx n=some t') (hb:t'.began=t.began):(λk=>val s'.l k t'.began)=λk=>val s.l k t.began:=by
 funext k
 have h1:=(h.tim n t ht).2
 have h2:=((zMX h hn e).tim n t' ht').1
 rw [hb] at h2 ⊢
 exact zRE h hn e h1 h2 k
theorem zFh {s s':St} {a:Ans} {x:za} (h:Inv s) (hn:s.now+1<=maxT) (e:Eff s x s' a) {n:Int} (hx:x.Tx≠n∨x.Kind=1) {ops:List Op1} (hN:zHG s n ops):zHG s' n ops:=by
 have hnn:=zMV e
 refine ⟨λt' ht'=>?_,λhg=>hN.yet (by omega)⟩
 cases ht:s.tx n with
 |some t=>
  have h1:=zPR h e ht hx
  have h2:t'=t:=by rw [ht'] at h1;exact Option.some.inj h1
  subst h2
  rw [zRg h hn e ht ht' rfl]
  exact hN.is t' ht
 |none=>
  have hb:n=s.given+1/\t'=zGa s:=by
   have hset:∀ u m,m≠n->(setTx s m u).tx n=none:=λu m hm=>by show upd s.tx m u n=_;rw [yU _ _ (Ne.symm hm)];exact ht
   have hov:∀ u:St,u.tx n=none->(zAB u x.Tx).tx n=none:=λu hu=>by
    rw [zHg]
    by_cases hm:n=x.Tx
    ·rw [hm,zEU]
    ·rw [zBv _ hm];exact hu
   cases e with
   |no e _=>rw [ht] at ht';cases ht'
   |beg k _=>
    have h2:upd s.tx (s.given+1) (zGa s) n=some t':=ht'
    by_cases hm:n=s.given+1
    ·subst hm;rw [Ql] at h2;exact ⟨rfl,(Option.some.inj h2).symm⟩
    ·rw [yU _ _ hm,ht] at h2;cases h2
   |get u k hu _ _=>rw [hset _ _ (λe=>by rw [e,ht] at hu;cases hu)] at ht';cases ht'
   |scan u k hu _=>rw [hset _ _ (λe=>by rw [e,ht] at hu;cases hu)] at ht';cases ht'
   |write u y k hu _ _=>rw [hset _ _ (λe=>by rw [e,ht] at hu;cases hu)] at ht';cases ht'
   |abort u k hu=>rw [hov s ht] at ht';cases ht'
   |fail u e k hu _=>rw [hov s ht] at ht';cases ht'
   |empty u k hu _ _=>rw [hov s ht] at ht';cases ht'
   |comm u ys k hu _ _ _ _=>rw [hov (putS s (putL s.l (s.now+1) ys,s.low,0)) ht] at ht';cases ht'
  obtain ⟨h1,h2⟩:=hb
  obtain ⟨q1,q2,q3⟩:=zQa (hN.yet (by omega)) (λk=>val s'.l k t'.began)
  refine ⟨q1,?_,?_⟩
  ·rw [q2,h2];rfl
  ·rw [q3,h2];rfl
theorem zMB {s s':St} {a:Ans} {x:za} (h:Inv s) (hn:s.now+1<=maxT) (e:Eff s x s' a) (hk:x.Kind≠6) {ops:List Op1} (hN:zHG s x.Tx ops):zHG s' x.Tx (ops++[(x,a)]):=by
 have hinv:=zMX h hn e
 have hnn:=zMV e
 have mute:Mute (x,a)->zHG s' x.Tx ops->zHG s' x.Tx (ops++[(x,a)]):=λhm h1=>⟨λt' ht'=>by
  obtain ⟨q1,q2,q3⟩:=h1.is t' ht'
  refine ⟨q1.snoc (zMH hm _ _) ?_,?_,?_⟩
  ·rw [zGr,zMc hm];exact q1.wr
  ·rw [zGr,zMc hm];exact q2
  ·rw [zJF,zQE hm,List.append_nil];exact q3,λhg p hp=>by
  rcases List.mem_append.1 hp with h2|h2
  ·exact h1.yet hg p h2
  ·simp at h2;subst h2;exact hm⟩
 cases e with
 |no e he=>exact mute (.inl he) hN
 |beg k hc=>exact mute (.inr (.inl (by show x.Kind<2;omega))) (zFh h hn (.beg k hc) (.inr k) hN)
 |abort t k ht=>
  refine ⟨λt' ht'=>?_,λhg=>?_⟩
  ·rw [zHg,zEU] at ht';cases ht'
  ·have:=(h.num _ t ht).2;omega
 |fail t e k _ _=>exact absurd k hk
 |empty t k _ _ _=>exact absurd k hk
 |comm t ys k _ _ _ _ _=>exact absurd k hk
 |get t k ht hs hl=>
  obtain ⟨q1,q2,q3⟩:=hN.is t ht
  refine ⟨λt' ht'=>?_,λhg=>by have:=(h.num _ t ht).2;have:s.given<x.Tx:=hg;omega⟩
  have ht2:t'=addR t (zHP x.Key):=by
   have h2:upd s.tx x.Tx (addR t (zHP x.Key)) x.Tx=some t':=ht'
   rw [Ql] at h2;exact (Option.some.inj h2).symm
  subst ht2
  have hw:wrOf (ops++[(x,{ans0 with val:=(zHH s t x.Key).getD noB,is:=(zHH s t x.Key).isSome})])=wrOf ops:=by rw [zGr];unfold zGU;simp [k]
  refine ⟨zF6.snoc q1 ⟨λ_ _=>?_,λ_ k3=>?_⟩ (by rw [hw];exact q1.wr),by rw [hw];exact q2,?_⟩
  ·rw [← q2];exact ⟨rfl,rfl⟩
  ·exact absurd (k.symm.trans k3) (by decide)
  ·rw [zJF,← q3];unfold zJ9;simp [k,addR]
 |scan t k ht hl=>
  obtain ⟨q1,q2,q3⟩:=hN.is t ht
  refine ⟨λt' ht'=>?_,λhg=>by have:=(h.num _ t ht).2;have:s.given<x.Tx:=hg;omega⟩
  have ht2:t'=addR t (Y3 x.Key x.To):=by
   have h2:upd s.tx x.Tx (addR t (Y3 x.Key x.To)) x.Tx=some t':=ht'
   rw [Ql] at h2;exact (Option.some.inj h2).symm
  subst ht2
  have hw:wrOf (ops++[(x,{ans0 with pairs:=zHq (cut (Y3 x.Key x.To) (zHH s t))})])=wrOf ops:=by rw [zGr];unfold zGU;simp [k]
  refine ⟨zF6.snoc q1 ⟨λ_ k3=>?_,λ_ _=>?_⟩ (by rw [hw];exact q1.wr),by rw [hw];exact q2,?_⟩
  ·exact absurd (k.symm.trans k3) (by decide)
  ·rw [← q2];rfl
  ·rw [zJF,← q3];unfold zJ9;simp [k,addR]
 |write t y hky ht hy hl=>
  obtain ⟨q1,q2,q3⟩:=hN.is t ht
  refine ⟨λt' ht'=>?_,λhg=>by have:=(h.num _ t ht).2;have:s.given<x.Tx:=hg;omega⟩
  have ht2:t'=putW t y:=by
   have h2:upd s.tx x.Tx (putW t y) x.Tx=some t':=ht'
   rw [Ql] at h2;exact (Option.some.inj h2).symm
  have hok:=hinv.txok _ t' ht'
  subst ht2
  have hw:wrOf (ops++[(x,ans0)])=(putW t y).wr:=by
   rw [zGr,← q2];unfold zGU putW
   rcases hky with ⟨k,rfl⟩|⟨k,rfl⟩<;>simp [k]
  refine ⟨zF6.snoc q1 ⟨λ_ k3=>?_,λ_ k3=>?_⟩ (by rw [hw];exact zRZ hok),hw.symm,?_⟩
  ·rcases hky with ⟨k,_⟩|⟨k,_⟩<;>exact absurd (k.symm.trans k3) (by decide)
  ·rcases hky with ⟨k,_⟩|⟨k,_⟩<;>exact absurd (k.symm.trans k3) (by decide)
  ·rw [zJF,← q3];unfold zJ9 putW;rcases hky with ⟨k,_⟩|⟨k,_⟩<;>simp [k]
theorem zJy {s s':St} {a:Ans} {x:za} (h:Inv s) (hn:s.now+1<=maxT) (e:Eff s x s' a) (hk:x.Kind=6) {n:Int} {ops:List Op1} (hN:zHG s n ops):zHG s' n ops:=by
 by_cases hx:x.Tx=n
 ·subst hx
  have hgone:∀ u:St,(∃ t,s.tx x.Tx=some t)->(zAB u x.Tx).given=s.given->zHG (zAB u x.Tx) x.Tx ops:=λu ⟨t,ht⟩ hg=>⟨λt' ht'=>(by rw [zHg,zEU] at ht';cases ht'),λh1=>(by
   have:=(h.num _ t ht).2;omega)⟩
  have ho:∀ (u:St) n,(zAB u n).given=u.given:=λu n=>by unfold zAB zKH;split<;>rfl
  cases e with
  |no e he=>exact hN
  |beg k hc=>omega
  |abort t k ht=>omega
  |get t k _ _ _=>omega
  |scan t k _ _=>omega
  |write t y hky _ _ _=>rcases hky with ⟨k,_⟩|⟨k,_⟩<;>omega
  |fail t e k ht _=>exact hgone _ ⟨t,ht⟩ (ho _ _)
  |empty t k ht _ _=>exact hgone _ ⟨t,ht⟩ (ho _ _)
  |comm t ys k ht _ _ _ _=>exact hgone _ ⟨t,ht⟩ (ho _ _)
 ·exact zFh h hn e (.inl hx) hN
theorem zOX {s:St} {t:Tx} (hI:Inv s) (hb:t.began<=s.now) (hc:s.l.any (conf t)=false):∀ x∈t.reads,∀ k,Qr x k=true->val s.l k s.now=val s.l k t.began:=by
 intro x hx k hs
 unfold val
 rw [zHt hI.good.sorted hI.good.sorted (s:=s.now) (t:=t.began) λv hv=>?_]
 constructor
 ·rintro ⟨h1,_⟩
  refine ⟨h1,Int.not_lt.1 λh2=>?_⟩
  have:conf t v=true:=by
   unfold conf
   rw [decide_eq_true h2,Bool.true_and]
   exact List.any_eq_true.2 ⟨x,hx,by rw [hv];exact hs⟩
  rw [List.any_eq_true.2 ⟨v,h1,this⟩] at hc;cases hc
 ·rintro ⟨h1,h2⟩;exact ⟨h1,by omega⟩
inductive zJY (f0:ByteArray->Option ByteArray):List (List Op1)->(ByteArray->Option ByteArray)->Prop
 |nil:zJY f0 [] f0
 |snoc {D f ops g}:zJY f0 D f->zF6 g ops->(∀ x∈rsOf ops,∀ k,Qr x k=true->f k=g k)->(∃ cur,zAK f cur/\cur.length<=4096)->zJY f0 (D++[ops]) (ovl (wrOf ops) f)
theorem zKE {f0:ByteArray->Option ByteArray} {D:List (List Op1)} {s s':St} {a:Ans} {x:za} (h:Inv s) (hn:s.now+1<=maxT) (e:Eff s x s' a) (hk:x.Kind=6) (hw:a.why=0) (hC:zJY f0 D λk=>val s.l k s.now) {ops:List Op1} (hN:zHG s x.Tx ops):
  zJY f0 (D++[ops]) (λk=>val s'.l k s'.now)/\(ops=[]->(λk=>val s'.l k s'.now)=λk=>val s.l k s.now):=by
 have hcur:∃ cur,zAK (λk=>val s.l k s.now) cur/\cur.length<=4096:=⟨_,zQ6 h.good s.now,zn (zJs _ _ _ _ _) h.good.len⟩
 have hall:=zKp h hn e
 have main:∀ t,s.tx x.Tx=some t->s.l.any (conf t)=false->(∀ key,val s'.l key s'.now=ovl t.wr (λk=>val s.l k s.now) key)->zJY f0 (D++[ops]) (λk=>val s'.l k s'.now)/\(ops=[]->(λk=>val s'.l k s'.now)=λk=>val s.l k s.now):=by
  intro t ht hc hv
  obtain ⟨q1,q2,q3⟩:=hN.is t ht
  have hf:(λk=>val s'.l k s'.now)=ovl (wrOf ops) (λk=>val s.l k s.now):=by rw [← q2];exact funext hv
  refine ⟨?_,λhe=>?_⟩
  ·rw [hf]
   exact .snoc hC q1 (λy hy k hs=>zOX h (h.tim _ t ht).2 hc y (by rw [q3];exact hy) k hs) hcur
  ·rw [hf,he];rfl
 cases e with
 |no e he=>exact absurd hw he
 |beg k hc=>omega
 |abort t k ht=>omega
 |get t k _ _ _=>omega
 |scan t k _ _=>omega
 |write t y hky _ _ _=>rcases hky with ⟨k,_⟩|⟨k,_⟩<;>omega
 |fail t e k ht he=>exact absurd hw he
 |empty t k ht hc he=>
  refine main t ht hc λkey=>?_
  rcases hall with ⟨h1,_⟩|⟨u,_,hu,_,_,_,h6⟩
  ·rw [h1];unfold ovl;rw [he]
  ·rw [ht] at hu;cases hu;exact h6 key
 |comm t ys k ht hc hS hne hp=>
  refine main t ht hc λkey=>?_
  rcases hall with ⟨_,h2⟩|⟨u,_,hu,_,_,_,h6⟩
  ·have h2:ys=[]:=h2
   subst h2
   obtain ⟨key',hk'⟩:=hne
   obtain ⟨y,hy⟩:=Option.ne_none_iff_exists'.1 hk'
   have:=(hS.2 y).2 (by rw [(h.txok _ t ht).keyed key' y hy];exact hy)
   cases this
  ·rw [ht] at hu;cases hu;exact h6 key
theorem zK9 {s s':St} {a:Ans} {x:za} (h:Inv s) (hn:s.now+1<=maxT) (e:Eff s x s' a) (hk:x.Kind≠6∨a.why≠0):(λk=>val s'.l k s'.now)=λk=>val s.l k s.now:=by
 rcases zKp h hn e with ⟨h1,_⟩|⟨u,h1,_,_,h2,_⟩
 ·exact funext h1
 ·rcases hk with h3|h3
  ·exact absurd h1 h3
  ·exact absurd h2 h3
end Go.Proofs.YtealcoghiaeiiaaGreat.VG
set_option linter.unusedVariables false
set_option linter.unusedSimpArgs false
namespace Go.VB
open Go.RowKit
theorem zNP (n:Nat):Builtin.nextslicecap (n+1) n<=n+n / 4+512:=by
 unfold Builtin.nextslicecap
 split
 ·omega
 ·split
  ·omega
  ·rw [growBy_four,if_neg (by omega),if_pos (by omega)];omega
section
variable {P:Program} {w:World} {α:Type} {c:α->List Value} {n e t bytes base:Nat}
theorem zMe {s:Sl} {xs:List α} {x:α} {vx:Value} (hO:OwnS c n e base w s xs) (hc:∀ x,(c x).length=n) (h1:∀ x,(c x).all (·.oneCell')=true) (hn:0<n)
  (hu:P.underlying t=some (.slice e)) {z:Value} (hi:(P.info? e).map (λi=>(i.zero,i.size,i.bytes))=some (some z,n,bytes)) (hz:z.cells.size=n)
  (hbs:∀ w,(ze t 1 [(0,vx)].toArray).run P w=.ok (Sl.v ⟨some ⟨w.heap.size,0,none⟩,1,1⟩) (w.alloc (.cells (c x).toArray e)))
  (hbw:base<=w.heap.size) (hsmall:xs.length+1<=140737488355328) (room:(xs.length+xs.length / 4+512)*bytes<=281474976710656) {J:World->Prop} (hJ:∀ w',Bel w w'->J w') {k:Sl->World->Prop} {ty:TypeId}
  (H:∀ s' w',OwnS c n e base w' s' (xs++[x])->((Sl.v s').ownBlock=(Sl.v s).ownBlock/\w.grownBy w' (Sl.v s).ownBlock∨Bel w w'/\∀ q,(Sl.v s').ownBlock=some q->w.heap.size<=q)->k s' w'):
  opE P Sl.v (ze t 1 [(0,vx)].toArray) w (λy w=>J w/\opE P Sl.v (Builtin.append_ #[t,t] ty [Sl.v s,Sl.v y].toArray) w k):=by
 refine ⟨_,_,hbs w,hJ _ (Bel.alloc _ _),?_⟩
 have b1:Bel w (w.alloc (.cells (c x).toArray e)):=Bel.alloc _ _
 have hO1:=hO.bel b1
 have hA:At (w.alloc (.cells (c x).toArray e)) ⟨w.heap.size,0,none⟩ (c x):=At.new w (c x) e
 have hsz1:=size_alloc' w (.cells (c x).toArray e)
 generalize hAd:(⟨w.heap.size,0,none⟩:Addr)=ad at hA ⊢
 generalize w.alloc (.cells (c x).toArray e)=w1 at b1 hO1 hA hsz1 ⊢
 obtain ⟨i0,hi0,hi1⟩:=Option.map_eq_some_iff.1 hi
 simp only [Prod.mk.injEq] at hi1
 obtain ⟨hz0,hz1,hz2⟩:=hi1
 subst hz1;subst hz2
 have hsl:=hO1.len
 have hl:(c x).length=1*i0.size:=by rw [hc];omega
 have hall:∀ u∈c x,u.oneCell'=true:=λu hu=>by have:=h1 x;rw [List.all_eq_true] at this;exact this u hu
 have hflat:(xs++[x]).flatMap c=xs.flatMap c++c x:=by rw [List.flatMap_append];simp
 have hfl:((xs++[x]).flatMap c).length=(s.len+1)*i0.size:=by rw [zFC hc,zg,List.length_singleton,hsl]
 have hnc:=zNP xs.length
 have hfit:Builtin.nextslicecap (xs.length+1) xs.length*i0.bytes<=281474976710656:=zn (Nat.mul_le_mul_right _ hnc) room
 have grown:∀ (old:Nat),old<s.len+1->OwnS c i0.size e base (w1.drew.alloc (.cells ((xs.flatMap c).toArray++(c x).toArray++Builtin.zeroCells z.cells (grownCap w1 (s.len+1) old e - (s.len+1))) e)) ⟨some ⟨w1.heap.size,0,none⟩,s.len+1,grownCap w1 (s.len+1) old e⟩ (xs++[x])/\
   Bel w1 (w1.drew.alloc (.cells ((xs.flatMap c).toArray++(c x).toArray++Builtin.zeroCells z.cells (grownCap w1 (s.len+1) old e - (s.len+1))) e)):=by
  intro old ho
  have hge:=grownCap_ge w1 (s.len+1) old e
  have hcm:grownCap w1 (s.len+1) old e<=maxLen:=grownCap_le_maxLen w1 (s.len+1) old e (by simp only [maxLen];omega)
  refine ⟨⟨by rw [zg,List.length_singleton];show _=s.len+1;omega,by show s.len+1<=_;omega,⟨hfl,.inr ⟨w1.heap.size,_,_,rfl,by omega,heap_alloc_new w1.drew _,hge,hcm,?_,?_⟩⟩⟩,⟨rfl,rfl,rfl,by simp,λk hk=>heap_alloc_old w1.drew _ k hk⟩⟩
  ·simp only [Array.size_append,List.size_toArray,size_zeroCells,hz,zFC hc,hl,hsl,← Nat.add_mul]
   congr 1;omega
  ·simp only [Array.toList_append,List.append_assoc]
   rw [← List.append_assoc,← hflat,← hfl]
   exact List.take_left
 rcases hO1.row.2 with ⟨h2,h3⟩|⟨g,cap,cur,h2,h3,h4,h5,h6,h7,h8⟩
 ·have hx0:xs=[]:=List.eq_nil_of_length_eq_zero (by omega)
  have h9:=run_append_nil (P:=P) w1 t ty e i0 z hu hi0 hz0 ad 1 1 (c x) hl hA (by omega) (by omega) (by have:=Nat.mul_le_mul_right i0.bytes (show 1<=xs.length+xs.length / 4+512 by omega);omega)
  have h10:=grown 0 (by omega)
  rw [show s.len=0 from h3] at h10
  rw [hx0] at h10 H
  simp only [Nat.zero_add,List.flatMap_nil,List.nil_append,Array.empty_append] at h10
  rw [h2]
  refine ⟨⟨some ⟨w1.heap.size,0,none⟩,1,grownCap w1 1 0 e⟩,_,h9,H _ _ h10.1 (.inr ⟨b1.trans h10.2,λq hq=>?_⟩)⟩
  simp [Value.ownBlock] at hq;omega
 ·have hxs:(xs.flatMap c).length=s.len*i0.size:=by rw [zFC hc,hsl]
  by_cases hroom2:s.len+1<=cap
  ·have hfit2:s.len*i0.size+(c x).length<=cur.size:=by rw [hl,h7,← Nat.add_mul];exact Nat.mul_le_mul_right _ hroom2
   have h9:=run_append_room (P:=P) w1 t ty e i0 hu hi0 g s.len cap cur h4 ad 1 1 (c x) hl hA hall hroom2 hfit2
   rw [h2]
   refine ⟨⟨some ⟨g,0,none⟩,s.len+1,cap⟩,_,h9,H _ _ ⟨by rw [zg,List.length_singleton];show _=s.len+1;omega,by show s.len+1<=_;omega,⟨hfl,.inr ⟨g,cap,_,rfl,h3,setRow_heap w1 g cur _ e _ h4,hroom2,h6,?_,?_⟩⟩⟩ (.inl ⟨by rw [h2];rfl,?_⟩)⟩
   ·simp only [List.size_toArray,zg,List.length_take,List.length_drop,Array.length_toList]
    omega
   ·rw [h8,← hflat,← hfl]
    exact List.take_left
   ·rw [h2]
    exact zS (zo b1 _) ⟨rfl,rfl,rfl,by simp,λk _ hk=>setRow_other w1 g k _ (λe=>hk (by simp [Value.ownBlock,e]))⟩
  ·have holds:∀ j u,(xs.flatMap c)[j]?=some u->w1.cell? ((⟨g,0,none⟩:Addr).add j)=some u:=hO1.row.cells (g:=g) (by rw [h2];rfl)
   have hcl:cap=xs.length:=by omega
   have h9:=run_append_grow (P:=P) w1 t ty e i0 z hu hi0 hz0 ⟨g,0,none⟩ s.len cap (xs.flatMap c) hxs holds ad 1 1 (c x) hl hA (by omega) (by omega) (by rw [hcl,show s.len=xs.length by omega];exact hfit)
   have h10:=grown cap (by omega)
   rw [h2]
   refine ⟨⟨some ⟨w1.heap.size,0,none⟩,s.len+1,grownCap w1 (s.len+1) cap e⟩,_,h9,H _ _ h10.1 (.inr ⟨b1.trans h10.2,λq hq=>?_⟩)⟩
   simp [Value.ownBlock] at hq;omega
end
theorem Rd.front {α:Type} {c:α->List Value} {n e b b':Nat} {w w':World} {s s' d:Sl} {xs ys ms:List α} (hc:∀ x,(c x).length=n) (hO:OwnS c n e b w s xs) (hO':OwnS c n e b' w' s' (xs++ys)) (hb:(Sl.v s').ownBlock=(Sl.v s).ownBlock)
  (hd:Rd c n w d ms) (hdb:(Sl.v d).ownBlock=(Sl.v s).ownBlock) (hda:∀ a,d.a=some a->a=⟨a.block,0,none⟩) (hl:d.len<=s.len):Rd c n w' d ms:=by
 refine ⟨hd.len,hd.cap,hd.capm,hd.big,hd.nilc,λi x hx=>?_⟩
 obtain ⟨ad,ha,hA⟩:=hd.cells i x hx
 refine ⟨ad,ha,?_⟩
 have hil:i<s.len:=by have:=(List.getElem?_eq_some_iff.1 hx).1;have:=hd.len;omega
 have hxl:=hO.len
 obtain ⟨y,hy⟩:∃ y,xs[i]?=some y:=⟨xs[i]'(by omega),by simp⟩
 have had:=hda ad ha
 have hown:(Sl.v s).ownBlock=some ad.block:=by rw [← hdb];simp [Sl.v,ha,Value.ownBlock]
 obtain ⟨a1,ha1,hA1⟩:=(hO.rd hc).cells i y hy
 obtain ⟨a2,ha2,hA2⟩:=(hO'.rd hc).cells i y (by rw [List.getElem?_append_left (by omega)];exact hy)
 have e1:a1=ad:=by
  rcases hO.row.2 with ⟨h1,_⟩|⟨g,cap,cur,h1,_⟩
  ·rw [h1] at hown;cases hown
  ·have:s.a=some ⟨g,0,none⟩:=by obtain ⟨a,l,cp⟩:=s;injection h1
   rw [ha1] at this;rw [h1] at hown
   simp [Value.ownBlock] at hown
   rw [Option.some.inj this,had,← hown]
 have e2:a2=ad:=by
  rw [← hb] at hown
  rcases hO'.row.2 with ⟨h1,_⟩|⟨g,cap,cur,h1,_⟩
  ·rw [h1] at hown;cases hown
  ·have:s'.a=some ⟨g,0,none⟩:=by obtain ⟨a,l,cp⟩:=s';injection h1
   rw [ha2] at this;rw [h1] at hown
   simp [Value.ownBlock] at hown
   rw [Option.some.inj this,had,← hown]
 subst e1;subst e2
 have hxy:c x=c y:=by
  refine List.ext_getElem? λj=>?_
  by_cases hj:j<n
  ·obtain ⟨u,hu⟩:∃ u,(c x)[j]?=some u:=⟨(c x)[j]'(by rw [hc];exact hj),by simp⟩
   obtain ⟨v,hv⟩:∃ v,(c y)[j]?=some v:=⟨(c y)[j]'(by rw [hc];exact hj),by simp⟩
   have h3:=hA j u hu
   have h4:=hA1 j v hv
   rw [h3] at h4
   rw [hu,hv];exact h4
  ·rw [List.getElem?_eq_none (by rw [hc];omega),List.getElem?_eq_none (by rw [hc];omega)]
 rw [hxy];exact hA2
theorem zMC {α:Type} {c:α->List Value} {n:Nat} (hc:∀ x,(c x).length=n) {r:Nat} (hr:r<n) {v:Value} {x y:α} (hxy:c y=(c x).set r v):∀ (xs:List α) (i:Nat),xs[i]?=some x->(xs.set i y).flatMap c=(xs.flatMap c).set (i*n+r) v
 |[],i,h=>by simp at h
 |a::l,0,h=>by
  simp at h;subst h
  rw [List.set_cons_zero,List.flatMap_cons,List.flatMap_cons,hxy,Nat.zero_mul,Nat.zero_add,List.set_append_left _ _ (by rw [hc];exact hr)]
 |a::l,i+1,h=>by
  have ih:=zMC hc hr hxy l i (by simpa using h)
  rw [List.set_cons_succ,List.flatMap_cons,List.flatMap_cons,ih,List.set_append_right _ _ (by rw [hc,Nat.add_mul];omega),hc]
  congr 2
  rw [Nat.add_mul];omega
theorem OwnS.stFld {α:Type} {P:Program} {c:α->List Value} {n e base:Nat} {w:World} {s:Sl} {xs:List α} (hc:∀ x,(c x).length=n) (hO:OwnS c n e base w s xs) {i:Nat} {x y:α} (hx:xs[i]?=some x) {r:Nat} (hr:r<n) {v:Value} (hxy:c y=(c x).set r v) {t:Nat} (hA:One P t) (hv:v.cells.toList=[v]) (h1:v.oneCell'=true) {ad:Addr} (had:s.a=some ad):
  ∃ w',(zK t (.pointer (some ((ad.add (i*n)).add r))) v).run P w=.ok () w'/\OwnS c n e base w' s (xs.set i y)/\w.grownBy w' (Sl.v s).ownBlock:=by
 have hi:=(List.getElem?_eq_some_iff.1 hx).1
 obtain ⟨g,cap,cur,rfl,hh,hcap,hm,hsz,htk,hb⟩:=hO.at (by omega)
 obtain rfl:(⟨g,0,none⟩:Addr)=ad:=Option.some.inj had
 have hrow:Row w g cur.toList e:=by unfold Row;simpa using hh
 have hin:i*n+n<=xs.length*n:=by
  have:(i+1)*n<=xs.length*n:=Nat.mul_le_mul_right _ (by omega)
  rw [Nat.add_mul] at this;omega
 have hC:xs.length*n<=cur.toList.length:=by
  have h0:cur.toList.length=cap*n:=by simpa using hsz
  rw [h0];exact Nat.mul_le_mul_right _ hcap
 have hst:=zDS hA.size (off:=i*n+r) (v:=v) hrow hv rfl (by rw [List.length_singleton];omega) (by simpa using h1)
 have hset:cur.toList.take (i*n+r)++[v]++cur.toList.drop (i*n+r+[v].length)=cur.toList.set (i*n+r) v:=by
  rw [List.set_eq_take_append_cons_drop,if_pos (by omega)];simp
 rw [hset] at hst
 refine ⟨w.setRow g (cur.toList.set (i*n+r) v).toArray,?_,⟨by simp,hO.small,?_⟩,zEX w g _⟩
 ·rw [zGQ,add_plain']
  simpa [zK,Instr.sureAddr] using hst
 ·refine ⟨by rw [zFC hc,List.length_set],.inr ⟨g,cap,_,rfl,hb,zFb hh,hcap,hm,?_,?_⟩⟩
  ·simp only [List.size_toArray,List.length_set]
   simpa using hsz
  ·show (cur.toList.set (i*n+r) v).take (xs.length*n)=_
   rw [zMC hc hr hxy xs i hx,← htk,List.take_set]
end Go.VB
set_option linter.unusedVariables false
set_option linter.unusedSimpArgs false
namespace Go.Proofs.YtealcoghiaeiiaaGreat.VG
open Go.VB Go.Proofs Go.RowKit
abbrev Tld:=zm
inductive TR where
 |op
 |dn
 |st (i:Nat)
 |se (i:Nat)
abbrev Rol:=Nat->Option TR
structure Col {α:Type} (c:α->List Value) (n ty:Nat) (hd:Tld->Sl) (r:Nat->TR) (σ:Rol) (ρ:Own) (W:World) (es:List Tld) (Ls:List (List α)) (ds:List Tld) (Ms:List (List α)):Prop where
 len:es.length=Ls.length
 own:∀ (i:Nat) (e:Tld) (L:List α),es[i]?=some e->Ls[i]?=some L->OwnS c n ty 0 W (hd e) L/\∀ k,(Sl.v (hd e)).ownBlock=some k->σ k=some (r i)
 dlen:ds.length=Ms.length
 dn:∀ (j:Nat) (d:Tld) (M:List α),ds[j]?=some d->Ms[j]?=some M->Rd c n W (hd d) M/\(∀ a,(hd d).a=some a->a=⟨a.block,0,none⟩)/\
  ∀ k,(Sl.v (hd d)).ownBlock=some k->k<W.heap.size/\ρ k=none/\(σ k=none∨∃ (i:Nat) (e:Tld),es[i]?=some e/\σ k=some (r i)/\(Sl.v (hd e)).ownBlock=some k/\(hd d).len<=(hd e).len)
structure Rols (σ:Rol) (ρ:Own) (W:World):Prop where
 lt:∀ k,σ k≠none->k<W.heap.size
 dis:∀ k,σ k≠none->ρ k=none
section
variable {α:Type} {c:α->List Value} {n ty:Nat} {hd:Tld->Sl} {r:Nat->TR} {σ σ':Rol} {ρ ρ':Own} {W W':World} {es es':List Tld} {Ls:List (List α)} {ds:List Tld} {Ms:List (List α)}
theorem Col.other (h:Col c n ty hd r σ ρ W es Ls ds Ms) (hR:Rols σ ρ W) (hs:W.heap.size<=W'.heap.size)
  (hblk:∀ k,k<W.heap.size->ρ k=none->(σ k=none∨∃ i,σ k=some (r i))->W'.heap[k]?=W.heap[k]?)
  (hσ1:∀ k i,σ k=some (r i)->σ' k=some (r i)) (hσ0:∀ k,k<W.heap.size->ρ k=none->σ k=none->σ' k=none) (hρ:∀ k,k<W.heap.size->ρ' k=ρ k)
  (hel:es'.length=es.length) (hes:∀ (i:Nat) (e':Tld),es'[i]?=some e'->∃ e:Tld,es[i]?=some e/\hd e'=hd e):Col c n ty hd r σ' ρ' W' es' Ls ds Ms where
 len:=hel.trans h.len
 own i e' L he' hL:=by
  obtain ⟨e,he,hhd⟩:=hes i e' he'
  obtain ⟨h1,h2⟩:=h.own i e L he hL
  rw [hhd]
  exact ⟨h1.keep λk hk=>hblk k (h1.lt hk) (hR.dis k (by rw [h2 k hk];simp)) (.inr ⟨i,h2 k hk⟩),λk hk=>hσ1 k i (h2 k hk)⟩
 dlen:=h.dlen
 dn j d M hd' hM:=by
  obtain ⟨h1,h2,h3⟩:=h.dn j d M hd' hM
  refine ⟨h1.keep λk hk=>?_,h2,λk hk=>?_⟩
  ·obtain ⟨k1,k2,k3⟩:=h3 k hk
   refine hblk k k1 k2 ?_
   rcases k3 with k3|⟨i,e,_,k4,_⟩
   ·exact .inl k3
   ·exact .inr ⟨i,k4⟩
  ·obtain ⟨k1,k2,k3⟩:=h3 k hk
   refine ⟨yF k1 hs,(hρ k k1).trans k2,?_⟩
   rcases k3 with k3|⟨i,e,k4,k5,k6,k7⟩
   ·exact .inl (hσ0 k k1 k2 k3)
   ·right
    have hi:=(List.getElem?_eq_some_iff.1 k4).1
    obtain ⟨e',he'⟩:=getE (l:=es') (n:=i) (by omega)
    obtain ⟨e2,q1,q2⟩:=hes i e' he'
    rw [k4] at q1;cases q1
    exact ⟨i,e',he',hσ1 k i k5,by rw [q2];exact k6,by rw [q2];exact k7⟩
open Classical in
theorem Col.app (h:Col c n ty hd r σ ρ W es Ls ds Ms) (hc:∀ x,(c x).length=n) (hr:∀ i j,r i=r j->i=j) (hR:Rols σ ρ W) (hs:W.heap.size<=W'.heap.size) {i:Nat} {e e':Tld} {L:List α} {x:α} (he:es[i]?=some e) (hL:Ls[i]?=some L)
  (hO':OwnS c n ty 0 W' (hd e') (L++[x])) (hcase:(Sl.v (hd e')).ownBlock=(Sl.v (hd e)).ownBlock/\W.grownBy W' (Sl.v (hd e)).ownBlock∨Bel W W'/\∀ q,(Sl.v (hd e')).ownBlock=some q->W.heap.size<=q)
  (hσ:∀ k,σ' k=if (Sl.v (hd e')).ownBlock=some k then some (r i) else if σ k=some (r i) then none else σ k):
  Col c n ty hd r σ' ρ W' (es.set i e') (Ls.set i (L++[x])) ds Ms:=by
 obtain ⟨hO,hOr⟩:=h.own i e L he hL
 have hil:=(List.getElem?_eq_some_iff.1 he).1
 have hLl:=(List.getElem?_eq_some_iff.1 hL).1
 have oth:∀ k,k<W.heap.size->σ k≠some (r i)->W'.heap[k]?=W.heap[k]?/\σ' k=σ k:=λk hk hne=>by
  have hnb:(Sl.v (hd e')).ownBlock≠some k:=λe1=>by
   rcases hcase with ⟨h1,_⟩|⟨_,h2⟩
   ·rw [h1] at e1;exact hne (hOr k e1)
   ·have:=h2 k e1;omega
  refine ⟨?_,by rw [hσ,if_neg hnb,if_neg hne]⟩
  rcases hcase with ⟨_,h2⟩|⟨h2,_⟩
  ·exact h2.block k hk λe1=>hne (hOr k e1.symm)
  ·exact h2.block k hk
 refine ⟨by rw [List.length_set,List.length_set];exact h.len,λj f M hf hM=>?_,h.dlen,λj d M hd' hM=>?_⟩
 ·by_cases hj:j=i
  ·subst hj
   rw [List.getElem?_set_self hil] at hf
   rw [List.getElem?_set_self hLl] at hM
   cases hf;cases hM
   exact ⟨hO',λk hk=>by rw [hσ,if_pos hk]⟩
  ·rw [List.getElem?_set_ne (Ne.symm hj)] at hf hM
   obtain ⟨h1,h2⟩:=h.own j f M hf hM
   have hne:∀ k,(Sl.v (hd f)).ownBlock=some k->σ k≠some (r i):=λk hk e1=>by
    rw [h2 k hk] at e1;exact hj (hr j i (Option.some.inj e1))
   exact ⟨h1.keep λk hk=>(oth k (h1.lt hk) (hne k hk)).1,λk hk=>by rw [(oth k (h1.lt hk) (hne k hk)).2];exact h2 k hk⟩
 ·obtain ⟨h1,h2,h3⟩:=h.dn j d M hd' hM
  cases hk0:(Sl.v (hd d)).ownBlock with
  |none=>exact ⟨h1.keep λk hk=>(by rw [hk0] at hk;cases hk),h2,λk hk=>(by cases hk)⟩
  |some k=>
   obtain ⟨k1,k2,k3⟩:=h3 k hk0
   have triv:σ k≠some (r i)->Rd c n W' (hd d) M/\σ' k=σ k:=λhne=>⟨h1.keep λq hq=>by rw [hk0] at hq;cases hq;exact (oth k k1 hne).1,(oth k k1 hne).2⟩
   rcases k3 with k3|⟨m,f,k4,k5,k6,k7⟩
   ·obtain ⟨q1,q2⟩:=triv (by rw [k3];simp)
    exact ⟨q1,h2,λq hq=>by cases hq;exact ⟨by omega,k2,.inl (by rw [q2];exact k3)⟩⟩
   ·by_cases hm:m=i
    ·subst hm
     rw [he] at k4;cases k4
     rcases hcase with ⟨g1,g2⟩|⟨g1,g2⟩
     ·refine ⟨Rd.front hc hO hO' g1 h1 (by rw [hk0,k6]) h2 k7,h2,λq hq=>?_⟩
      cases hq
      have hl1:=hO.len;have hl2:=hO'.len
      rw [zg,List.length_singleton] at hl2
      exact ⟨by omega,k2,.inr ⟨m,e',List.getElem?_set_self hil,by rw [hσ,if_pos (by rw [g1];exact k6)],by rw [g1];exact k6,by omega⟩⟩
     ·refine ⟨h1.keep λq hq=>by rw [hk0] at hq;cases hq;exact g1.block k k1,h2,λq hq=>?_⟩
      cases hq
      refine ⟨by omega,k2,.inl ?_⟩
      rw [hσ,if_neg λe1=>by have:=g2 k e1;omega,if_pos k5]
    ·obtain ⟨q1,q2⟩:=triv (by rw [k5];intro e1;exact hm (hr m i (Option.some.inj e1)))
     exact ⟨q1,h2,λq hq=>by cases hq;exact ⟨by omega,k2,.inr ⟨m,f,by rw [List.getElem?_set_ne (Ne.symm hm)];exact k4,by rw [q2];exact k5,k6,k7⟩⟩⟩
theorem Col.push (h:Col c n ty hd r σ ρ W es Ls ds Ms) (hR:Rols σ ρ W) (hb:Bel W W') {e:Tld} {L:List α} (hO:OwnS c n ty 0 W' (hd e) L) (hnew:∀ k,(Sl.v (hd e)).ownBlock=some k->W.heap.size<=k)
  (hσ1:∀ k,(Sl.v (hd e)).ownBlock=some k->σ' k=some (r es.length)) (hσ0:∀ k,k<W.heap.size->σ' k=σ k):Col c n ty hd r σ' ρ W' (es++[e]) (Ls++[L]) ds Ms where
 len:=by rw [zg,zg,h.len];rfl
 own i f M hf hM:=by
  rcases Nat.lt_or_ge i es.length with hi|hi
  ·rw [List.getElem?_append_left hi] at hf
   rw [List.getElem?_append_left (by have:=h.len;omega)] at hM
   obtain ⟨h1,h2⟩:=h.own i f M hf hM
   exact ⟨h1.bel hb,λk hk=>by rw [hσ0 k (h1.lt hk)];exact h2 k hk⟩
  ·have hl:=(List.getElem?_eq_some_iff.1 hf).1
   rw [zg,List.length_singleton] at hl
   obtain rfl:i=es.length:=by omega
   rw [List.getElem?_append_right (zU _),Nat.sub_self] at hf
   rw [h.len,List.getElem?_append_right (zU _),Nat.sub_self] at hM
   simp at hf hM;subst hf;subst hM
   exact ⟨hO,hσ1⟩
 dlen:=h.dlen
 dn j d M hd' hM:=by
  obtain ⟨h1,h2,h3⟩:=h.dn j d M hd' hM
  refine ⟨h1.bel hb,h2,λk hk=>?_⟩
  obtain ⟨k1,k2,k3⟩:=h3 k hk
  refine ⟨yF k1 hb.le,k2,?_⟩
  rw [hσ0 k k1]
  rcases k3 with k3|⟨i,f,k4,k5⟩
  ·exact .inl k3
  ·exact .inr ⟨i,f,by rw [List.getElem?_append_left (List.getElem?_eq_some_iff.1 k4).1];exact k4,k5⟩
theorem Col.copy (h:Col c n ty hd r σ ρ W es Ls ds Ms) (hc:∀ x,(c x).length=n) (hR:Rols σ ρ W) {i:Nat} {e:Tld} {L:List α} (he:es[i]?=some e) (hL:Ls[i]?=some L):Col c n ty hd r σ ρ W es Ls (ds++[e]) (Ms++[L]) where
 len:=h.len
 own:=h.own
 dlen:=by rw [zg,zg,h.dlen];rfl
 dn j d M hd' hM:=by
  rcases Nat.lt_or_ge j ds.length with hj|hj
  ·rw [List.getElem?_append_left hj] at hd'
   rw [List.getElem?_append_left (by have:=h.dlen;omega)] at hM
   exact h.dn j d M hd' hM
  ·have hl:=(List.getElem?_eq_some_iff.1 hd').1
   rw [zg,List.length_singleton] at hl
   obtain rfl:j=ds.length:=by omega
   rw [List.getElem?_append_right (zU _),Nat.sub_self] at hd'
   rw [h.dlen,List.getElem?_append_right (zU _),Nat.sub_self] at hM
   simp at hd' hM;subst hd';subst hM
   obtain ⟨h1,h2⟩:=h.own i e L he hL
   refine ⟨h1.rd hc,λa ha=>?_,λk hk=>⟨h1.lt hk,hR.dis k (by rw [h2 k hk];simp),.inr ⟨i,e,he,h2 k hk,hk,zU _⟩⟩⟩
   rcases h1.row.2 with ⟨g1,_⟩|⟨g,cap,cur,g1,_⟩
   ·have:(hd e).a=none:=by
     generalize hd e=s at g1
     obtain ⟨a,l,cp⟩:=s;injection g1
    rw [this] at ha;cases ha
   ·have:(hd e).a=some ⟨g,0,none⟩:=by
     generalize hd e=s at g1
     obtain ⟨a,l,cp⟩:=s;injection g1
    rw [this] at ha
    rw [← Option.some.inj ha]
theorem Rols.mono (h:Rols σ ρ W) (hs:W.heap.size<=W'.heap.size) (hρ:∀ k,k<W.heap.size->ρ' k=ρ k):Rols σ ρ' W':=⟨λk hk=>yF (h.lt k hk) hs,λk hk=>(hρ k (h.lt k hk)).trans (h.dis k hk)⟩
end
def Fix (σ:Rol) (ρ:Own) (W:World) (p:zW × Ans):Prop:=
 zJW W p.1 p.2/\∀ q,((Sl.v p.1.Pairs).ownBlock=some q∨(Sl.v p.1.Done).ownBlock=some q)->q<W.heap.size/\ρ q=none/\σ q=none
theorem Fix.keep {σ σ':Rol} {ρ ρ':Own} {W W':World} {p:zW × Ans} (h:Fix σ ρ W p) (hs:W.heap.size<=W'.heap.size) (hb:∀ k,k<W.heap.size->ρ k=none->σ k=none->W'.heap[k]?=W.heap[k]?)
  (hσ:∀ k,k<W.heap.size->ρ k=none->σ k=none->σ' k=none) (hρ:∀ k,k<W.heap.size->ρ' k=ρ k):Fix σ' ρ' W' p:=by
 obtain ⟨h1,h2⟩:=h
 refine ⟨h1.keep (λq hq=>?_) (λq hq=>?_),λq hq=>?_⟩
 ·obtain ⟨k1,k2,k3⟩:=h2 q (.inl hq);exact hb q k1 k2 k3
 ·obtain ⟨k1,k2,k3⟩:=h2 q (.inr hq);exact hb q k1 k2 k3
 ·obtain ⟨k1,k2,k3⟩:=h2 q hq;exact ⟨by omega,(hρ q k1).trans k2,hσ q k1 k2 k3⟩
abbrev cAns (p:zW × Ans):List Value:=p.1.cells
abbrev ColS:=Col za.cells 5 Zl zm.steps TR.st
abbrev ColA:=Col cAns 7 Qo zm.seen TR.se
abbrev zGv (W:World) (s:Sl) (es:List Tld):Prop:=OwnS zm.cells 3 zJS 0 W s es
structure TAll (σ:Rol) (ρ:Own) (W:World) (xo:Sl) (es:List Tld) (Ss:List (List za)) (As:List (List (zW × Ans))) (xd:Sl) (ds:List Tld) (Sd:List (List za)) (Ad:List (List (zW × Ans))):Prop where
 rols:Rols σ ρ W
 oo:zGv W xo es
 ro:∀ k,(Sl.v xo).ownBlock=some k->σ k=some .op
 od:zGv W xd ds
 rd:∀ k,(Sl.v xd).ownBlock=some k->σ k=some .dn
 cs:ColS σ ρ W es Ss ds Sd
 ca:ColA σ ρ W es As ds Ad
 fa:∀ L∈As,∀ p∈L,Fix σ ρ W p
 fd:∀ L∈Ad,∀ p∈L,Fix σ ρ W p
section
variable {σ:Rol} {ρ ρ':Own} {W W':World} {xo xd:Sl} {es ds:List Tld} {Ss Sd:List (List za)} {As Ad:List (List (zW × Ans))}
theorem TAll.keep (h:TAll σ ρ W xo es Ss As xd ds Sd Ad) (hs:W.heap.size<=W'.heap.size) (hb:∀ k,k<W.heap.size->ρ k=none->W'.heap[k]?=W.heap[k]?) (hρ:∀ k,k<W.heap.size->ρ' k=ρ k):TAll σ ρ' W' xo es Ss As xd ds Sd Ad where
 rols:=h.rols.mono hs hρ
 oo:=h.oo.keep λk hk=>hb k (h.oo.lt hk) (h.rols.dis k (by rw [h.ro k hk];simp))
 ro:=h.ro
 od:=h.od.keep λk hk=>hb k (h.od.lt hk) (h.rols.dis k (by rw [h.rd k hk];simp))
 rd:=h.rd
 cs:=h.cs.other h.rols hs (λk h1 h2 _=>hb k h1 h2) (λ_ _ h=>h) (λ_ _ _ h=>h) hρ rfl λi e he=>⟨e,he,rfl⟩
 ca:=h.ca.other h.rols hs (λk h1 h2 _=>hb k h1 h2) (λ_ _ h=>h) (λ_ _ _ h=>h) hρ rfl λi e he=>⟨e,he,rfl⟩
 fa L hL p hp:=(h.fa L hL p hp).keep hs (λk h1 h2 _=>hb k h1 h2) (λ_ _ _ h=>h) hρ
 fd L hL p hp:=(h.fd L hL p hp).keep hs (λk h1 h2 _=>hb k h1 h2) (λ_ _ _ h=>h) hρ
theorem TAll.bel (h:TAll σ ρ W xo es Ss As xd ds Sd Ad) (hb:Bel W W'):TAll σ ρ W' xo es Ss As xd ds Sd Ad:=h.keep hb.le (λk h1 _=>hb.block k h1) λ_ _=>rfl
theorem TAll.ext (h:TAll σ ρ W xo es Ss As xd ds Sd Ad) (hE:Ext ρ W ρ' W'):TAll σ ρ' W' xo es Ss As xd ds Sd Ad:=h.keep hE.out.size (λk h1 h2=>hE.blk h1 h2) hE.same
theorem zPs (ρ:Own) (W:World):TAll (λ_=>none) ρ W Sl.none [] [] [] Sl.none [] [] [] where
 rols:=⟨λk hk=>absurd rfl hk,λk hk=>absurd rfl hk⟩
 oo:=OwnS.nil _ _ _ _ _
 ro k hk:=by cases hk
 od:=OwnS.nil _ _ _ _ _
 rd k hk:=by cases hk
 cs:=⟨rfl,λi e L he=>by simp at he,rfl,λi e L he=>by simp at he⟩
 ca:=⟨rfl,λi e L he=>by simp at he,rfl,λi e L he=>by simp at he⟩
 fa L hL:=by simp at hL
 fd L hL:=by simp at hL
end
end Go.Proofs.YtealcoghiaeiiaaGreat.VG
set_option linter.unusedVariables false
set_option linter.unusedSimpArgs false
namespace Go.Proofs.YtealcoghiaeiiaaGreat.VG
open Go.VB Go.Proofs Go.RowKit
section
variable {σ:Rol} {ρ ρ':Own} {W W1 W2:World} {xo xd:Sl} {es ds:List Tld} {Ss Sd:List (List za)} {As Ad:List (List (zW × Ans))}
open Classical in
noncomputable def took (σ:Rol) (s:Sl) (r:TR):Rol:=λk=>if (Sl.v s).ownBlock=some k then some r else if σ k=some r then none else σ k
theorem zKy {σ:Rol} {ρ:Own} {W W1:World} {r:TR} {s s':Sl} (hR:Rols σ ρ W) (hnew:∀ k,W.heap.size<=k->ρ k=none) (hs:W.heap.size<=W1.heap.size) (hlt:∀ k,(Sl.v s').ownBlock=some k->k<W1.heap.size) (hold:∀ k,(Sl.v s).ownBlock=some k->σ k=some r)
  (hcase:(Sl.v s').ownBlock=(Sl.v s).ownBlock∨∀ q,(Sl.v s').ownBlock=some q->W.heap.size<=q):Rols (took σ s' r) ρ W1:=by
 have key:∀ k,took σ s' r k≠none->k<W1.heap.size/\ρ k=none:=λk hk=>by
  by_cases e:(Sl.v s').ownBlock=some k
  ·refine ⟨hlt k e,?_⟩
   rcases hcase with h|h
   ·exact hR.dis k (by rw [hold k (by rw [← h];exact e)];simp)
   ·exact hnew k (h k e)
  ·have h1:σ k≠none:=by
    unfold took at hk
    rw [if_neg e] at hk
    split at hk
    ·exact absurd rfl hk
    ·exact hk
   exact ⟨yF (hR.lt k h1) hs,hR.dis k h1⟩
 exact ⟨λk hk=>(key k hk).1,λk hk=>(key k hk).2⟩
theorem zEL {σ:Rol} {W:World} {r:TR} {s s':Sl} (hold:∀ k,(Sl.v s).ownBlock=some k->σ k=some r) (hcase:(Sl.v s').ownBlock=(Sl.v s).ownBlock∨∀ q,(Sl.v s').ownBlock=some q->W.heap.size<=q) {k:Nat} (hk:k<W.heap.size) (hne:σ k≠some r):took σ s' r k=σ k:=by
 unfold took
 rw [if_neg (λe=>?_),if_neg hne]
 rcases hcase with h|h
 ·exact hne (hold k (by rw [← h];exact e))
 ·have:=h k e;omega
theorem TAll.appS (h:TAll σ ρ W xo es Ss As xd ds Sd Ad) (hnew:∀ k,W.heap.size<=k->ρ k=none) {i:Nat} {e e1:Tld} {L:List (za)} {x:za} (he:es[i]?=some e) (hL:Ss[i]?=some L) (hother:e1.seen=e.seen)
  (hs1:W.heap.size<=W1.heap.size) (hO':OwnS za.cells 5 Zl 0 W1 e1.steps (L++[x])) (hcase:(Sl.v e1.steps).ownBlock=(Sl.v e.steps).ownBlock/\W.grownBy W1 (Sl.v e.steps).ownBlock∨Bel W W1/\∀ q,(Sl.v e1.steps).ownBlock=some q->W.heap.size<=q)
  (hg:W1.grownBy W2 (Sl.v xo).ownBlock) (hO2:zGv W2 xo (es.set i e1)) (hfx:∀ p∈([]:List (zW × Ans)),Fix σ ρ W p):
  TAll (took σ e1.steps (.st i)) ρ W2 xo (es.set i e1) (Ss.set i (L++[x])) As xd ds Sd Ad:=by
 obtain ⟨hO,hOr⟩:=h.cs.own i e L he hL
 have hil:=(List.getElem?_eq_some_iff.1 he).1
 have hc2:(Sl.v e1.steps).ownBlock=(Sl.v e.steps).ownBlock∨∀ q,(Sl.v e1.steps).ownBlock=some q->W.heap.size<=q:=hcase.imp (·.1) (·.2)
 have hs2:W1.heap.size<=W2.heap.size:=hg.size
 have B1:∀ k,k<W.heap.size->σ k≠some (.st i)->W1.heap[k]?=W.heap[k]?:=λk hk hne=>by
  rcases hcase with ⟨_,h2⟩|⟨h2,_⟩
  ·exact h2.block k hk λe1=>hne (hOr k e1.symm)
  ·exact h2.block k hk
 have B:∀ k,k<W.heap.size->σ k≠some (.st i)->σ k≠some .op->W2.heap[k]?=W.heap[k]?:=λk hk hne hop=>by
  rw [hg.block k (by omega) λe1=>hop (h.ro k e1.symm)]
  exact B1 k hk hne
 have σo:∀ k,k<W.heap.size->σ k≠some (.st i)->took σ e1.steps (.st i) k=σ k:=λk hk hne=>zEL (W:=W) hOr hc2 hk hne
 have rl1:Rols (took σ e1.steps (.st i)) ρ W1:=zKy h.rols hnew hs1 (λk hk=>hO'.lt hk) hOr hc2
 have σop:∀ k,(Sl.v xo).ownBlock=some k->took σ e1.steps (.st i) k=some .op:=λk hk=>by rw [σo k (h.oo.lt hk) (by rw [h.ro k hk];simp),h.ro k hk]
 have hno:∀ (f:Tld) (j:Nat),(es.set i e1)[j]?=some f->∃ g,es[j]?=some g/\f.seen=g.seen:=λf j hf=>by
  by_cases hj:j=i
  ·subst hj;rw [List.getElem?_set_self hil] at hf;cases hf;exact ⟨e,he,hother⟩
  ·rw [List.getElem?_set_ne (Ne.symm hj)] at hf;exact ⟨f,hf,rfl⟩
 have fixk:∀ p,Fix σ ρ W p->Fix (took σ e1.steps (.st i)) ρ W2 p:=λp hp=>hp.keep (by omega) (λk h1 _ h3=>B k h1 (by rw [h3];simp) (by rw [h3];simp)) (λk h1 _ h3=>by rw [σo k h1 (by rw [h3];simp)];exact h3) λ_ _=>rfl
 have A1:=h.cs.app (e':=e1) (x:=x) (W':=W1) (σ':=took σ e1.steps (.st i)) (λ_=>rfl) (λa b hab=>by injection hab) h.rols hs1 he hL hO' hcase (λk=>rfl)
 have A2:=A1.other (W':=W2) (σ':=took σ e1.steps (.st i)) (ρ':=ρ) (es':=es.set i e1) rl1 hs2 (λk h1 h2 h3=>hg.block k h1 λe2=>by
  have:=σop k e2.symm
  rcases h3 with h3|⟨j,h3⟩<;>rw [h3] at this<;>cases this) (λ_ _ h=>h) (λ_ _ _ h=>h) (λ_ _=>rfl) rfl λj f hf=>⟨f,hf,rfl⟩
 have O2:=h.ca.other (W':=W2) (σ':=took σ e1.steps (.st i)) (ρ':=ρ) (es':=es.set i e1) h.rols (by omega) (λk h1 h2 h3=>by
  rcases h3 with h3|⟨j,h3⟩
  ·exact B k h1 (by rw [h3];simp) (by rw [h3];simp)
  ·exact B k h1 (by rw [h3];simp) (by rw [h3];simp)) (λk j hk=>by rw [σo k (h.rols.lt k (by rw [hk];simp)) (by rw [hk];simp)];exact hk) (λk h1 _ h3=>by rw [σo k h1 (by rw [h3];simp)];exact h3) (λ_ _=>rfl) (by rw [List.length_set]) λj f hf=>hno f j hf
 exact {
  rols:=⟨λk hk=>yF (rl1.lt k hk) hs2,rl1.dis⟩
  oo:=hO2
  ro:=σop
  od:=h.od.keep λk hk=>B k (h.od.lt hk) (by rw [h.rd k hk];simp) (by rw [h.rd k hk];simp)
  rd:=λk hk=>by rw [σo k (h.od.lt hk) (by rw [h.rd k hk];simp)];exact h.rd k hk
  cs:=A2
  ca:=O2
  fa:=λL hL p hp=>fixk p (h.fa L hL p hp)
  fd:=λL hL p hp=>fixk p (h.fd L hL p hp)}
theorem TAll.appA (h:TAll σ ρ W xo es Ss As xd ds Sd Ad) (hnew:∀ k,W.heap.size<=k->ρ k=none) {i:Nat} {e e1:Tld} {L:List (zW × Ans)} {x:zW × Ans} (he:es[i]?=some e) (hL:As[i]?=some L) (hother:e1.steps=e.steps)
  (hs1:W.heap.size<=W1.heap.size) (hO':OwnS cAns 7 Qo 0 W1 e1.seen (L++[x])) (hcase:(Sl.v e1.seen).ownBlock=(Sl.v e.seen).ownBlock/\W.grownBy W1 (Sl.v e.seen).ownBlock∨Bel W W1/\∀ q,(Sl.v e1.seen).ownBlock=some q->W.heap.size<=q)
  (hg:W1.grownBy W2 (Sl.v xo).ownBlock) (hO2:zGv W2 xo (es.set i e1)) (hfx:∀ p∈[x],Fix σ ρ W p):
  TAll (took σ e1.seen (.se i)) ρ W2 xo (es.set i e1) Ss (As.set i (L++[x])) xd ds Sd Ad:=by
 obtain ⟨hO,hOr⟩:=h.ca.own i e L he hL
 have hil:=(List.getElem?_eq_some_iff.1 he).1
 have hc2:(Sl.v e1.seen).ownBlock=(Sl.v e.seen).ownBlock∨∀ q,(Sl.v e1.seen).ownBlock=some q->W.heap.size<=q:=hcase.imp (·.1) (·.2)
 have hs2:W1.heap.size<=W2.heap.size:=hg.size
 have B1:∀ k,k<W.heap.size->σ k≠some (.se i)->W1.heap[k]?=W.heap[k]?:=λk hk hne=>by
  rcases hcase with ⟨_,h2⟩|⟨h2,_⟩
  ·exact h2.block k hk λe1=>hne (hOr k e1.symm)
  ·exact h2.block k hk
 have B:∀ k,k<W.heap.size->σ k≠some (.se i)->σ k≠some .op->W2.heap[k]?=W.heap[k]?:=λk hk hne hop=>by
  rw [hg.block k (by omega) λe1=>hop (h.ro k e1.symm)]
  exact B1 k hk hne
 have σo:∀ k,k<W.heap.size->σ k≠some (.se i)->took σ e1.seen (.se i) k=σ k:=λk hk hne=>zEL (W:=W) hOr hc2 hk hne
 have rl1:Rols (took σ e1.seen (.se i)) ρ W1:=zKy h.rols hnew hs1 (λk hk=>hO'.lt hk) hOr hc2
 have σop:∀ k,(Sl.v xo).ownBlock=some k->took σ e1.seen (.se i) k=some .op:=λk hk=>by rw [σo k (h.oo.lt hk) (by rw [h.ro k hk];simp),h.ro k hk]
 have hno:∀ (f:Tld) (j:Nat),(es.set i e1)[j]?=some f->∃ g,es[j]?=some g/\f.steps=g.steps:=λf j hf=>by
  by_cases hj:j=i
  ·subst hj;rw [List.getElem?_set_self hil] at hf;cases hf;exact ⟨e,he,hother⟩
  ·rw [List.getElem?_set_ne (Ne.symm hj)] at hf;exact ⟨f,hf,rfl⟩
 have fixk:∀ p,Fix σ ρ W p->Fix (took σ e1.seen (.se i)) ρ W2 p:=λp hp=>hp.keep (by omega) (λk h1 _ h3=>B k h1 (by rw [h3];simp) (by rw [h3];simp)) (λk h1 _ h3=>by rw [σo k h1 (by rw [h3];simp)];exact h3) λ_ _=>rfl
 have A1:=h.ca.app (e':=e1) (x:=x) (W':=W1) (σ':=took σ e1.seen (.se i)) (λ_=>rfl) (λa b hab=>by injection hab) h.rols hs1 he hL hO' hcase (λk=>rfl)
 have A2:=A1.other (W':=W2) (σ':=took σ e1.seen (.se i)) (ρ':=ρ) (es':=es.set i e1) rl1 hs2 (λk h1 h2 h3=>hg.block k h1 λe2=>by
  have:=σop k e2.symm
  rcases h3 with h3|⟨j,h3⟩<;>rw [h3] at this<;>cases this) (λ_ _ h=>h) (λ_ _ _ h=>h) (λ_ _=>rfl) rfl λj f hf=>⟨f,hf,rfl⟩
 have O2:=h.cs.other (W':=W2) (σ':=took σ e1.seen (.se i)) (ρ':=ρ) (es':=es.set i e1) h.rols (by omega) (λk h1 h2 h3=>by
  rcases h3 with h3|⟨j,h3⟩
  ·exact B k h1 (by rw [h3];simp) (by rw [h3];simp)
  ·exact B k h1 (by rw [h3];simp) (by rw [h3];simp)) (λk j hk=>by rw [σo k (h.rols.lt k (by rw [hk];simp)) (by rw [hk];simp)];exact hk) (λk h1 _ h3=>by rw [σo k h1 (by rw [h3];simp)];exact h3) (λ_ _=>rfl) (by rw [List.length_set]) λj f hf=>hno f j hf
 exact {
  rols:=⟨λk hk=>yF (rl1.lt k hk) hs2,rl1.dis⟩
  oo:=hO2
  ro:=σop
  od:=h.od.keep λk hk=>B k (h.od.lt hk) (by rw [h.rd k hk];simp) (by rw [h.rd k hk];simp)
  rd:=λk hk=>by rw [σo k (h.od.lt hk) (by rw [h.rd k hk];simp)];exact h.rd k hk
  cs:=O2
  ca:=A2
  fa:=λM hM p hp=>by
   rcases List.mem_or_eq_of_mem_set hM with h1|h1
   ·exact fixk p (h.fa M h1 p hp)
   ·subst h1
    rcases List.mem_append.1 hp with h2|h2
    ·exact fixk p (h.fa L (List.mem_of_getElem? hL) p h2)
    ·exact fixk p (hfx p h2)
  fd:=λL hL p hp=>fixk p (h.fd L hL p hp)}
open Classical in
noncomputable def newR (σ:Rol) (e:Tld) (n:Nat):Rol:=λk=>if (Sl.v e.steps).ownBlock=some k then some (.st n) else if (Sl.v e.seen).ownBlock=some k then some (.se n) else σ k
theorem TAll.push (h:TAll σ ρ W xo es Ss As xd ds Sd Ad) (hnew:∀ k,W.heap.size<=k->ρ k=none) {e1:Tld} {x:za} {p:zW × Ans} (b1:Bel W W1) (hS:OwnS za.cells 5 Zl 0 W1 e1.steps [x]) (hSn:∀ k,(Sl.v e1.steps).ownBlock=some k->W.heap.size<=k)
  (hA:OwnS cAns 7 Qo 0 W1 e1.seen [p]) (hAn:∀ k,(Sl.v e1.seen).ownBlock=some k->W.heap.size<=k) (hne:∀ k,(Sl.v e1.steps).ownBlock=some k->(Sl.v e1.seen).ownBlock≠some k) {r:Sl} (hs2:W1.heap.size<=W2.heap.size)
  (hO2:zGv W2 r (es++[e1])) (hcase:(Sl.v r).ownBlock=(Sl.v xo).ownBlock/\W1.grownBy W2 (Sl.v xo).ownBlock∨Bel W1 W2/\∀ q,(Sl.v r).ownBlock=some q->W1.heap.size<=q) (hfx:Fix σ ρ W p):
  TAll (took (newR σ e1 es.length) r .op) ρ W2 r (es++[e1]) (Ss++[[x]]) (As++[[p]]) xd ds Sd Ad:=by
 have s1:=b1.le
 have n0:∀ k,k<W.heap.size->newR σ e1 es.length k=σ k:=λk hk=>by
  unfold newR
  rw [if_neg λe=>by have:=hSn k e;omega,if_neg λe=>by have:=hAn k e;omega]
 have nS:∀ k,(Sl.v e1.steps).ownBlock=some k->newR σ e1 es.length k=some (.st es.length):=λk hk=>by unfold newR;rw [if_pos hk]
 have nA:∀ k,(Sl.v e1.seen).ownBlock=some k->newR σ e1 es.length k=some (.se es.length):=λk hk=>by
  unfold newR;rw [if_neg λe=>hne k e hk,if_pos hk]
 have P1:=h.cs.push (W':=W1) (e:=e1) (L:=[x]) (σ':=newR σ e1 es.length) h.rols b1 hS hSn nS n0
 have P2:=h.ca.push (W':=W1) (e:=e1) (L:=[p]) (σ':=newR σ e1 es.length) h.rols b1 hA hAn nA n0
 have key:∀ k,newR σ e1 es.length k≠none->k<W1.heap.size/\ρ k=none:=λk hk=>by
  by_cases e:(Sl.v e1.steps).ownBlock=some k
  ·exact ⟨hS.lt e,hnew k (hSn k e)⟩
  ·by_cases e':(Sl.v e1.seen).ownBlock=some k
   ·exact ⟨hA.lt e',hnew k (hAn k e')⟩
   ·have h1:σ k≠none:=by unfold newR at hk;rw [if_neg e,if_neg e'] at hk;exact hk
    exact ⟨yF (h.rols.lt k h1) s1,h.rols.dis k h1⟩
 have rl:Rols (newR σ e1 es.length) ρ W1:=⟨λk hk=>(key k hk).1,λk hk=>(key k hk).2⟩
 have rop:∀ k,(Sl.v xo).ownBlock=some k->newR σ e1 es.length k=some .op:=λk hk=>by rw [n0 k (h.oo.lt hk)];exact h.ro k hk
 have hc2:(Sl.v r).ownBlock=(Sl.v xo).ownBlock∨∀ q,(Sl.v r).ownBlock=some q->W1.heap.size<=q:=hcase.imp (·.1) (·.2)
 have rl2:Rols (took (newR σ e1 es.length) r .op) ρ W2:=zKy rl (λk hk=>hnew k (by omega)) hs2 (λk hk=>hO2.lt hk) rop hc2
 have σo:∀ k,k<W1.heap.size->newR σ e1 es.length k≠some .op->took (newR σ e1 es.length) r .op k=newR σ e1 es.length k:=λk hk hn=>zEL (W:=W1) rop hc2 hk hn
 have B:∀ k,k<W1.heap.size->newR σ e1 es.length k≠some .op->W2.heap[k]?=W1.heap[k]?:=λk hk hn=>by
  rcases hcase with ⟨_,h2⟩|⟨h2,_⟩
  ·exact h2.block k hk λe=>hn (rop k e.symm)
  ·exact h2.block k hk
 have fixk:∀ q,Fix σ ρ W q->Fix (took (newR σ e1 es.length) r .op) ρ W2 q:=λq hq=>hq.keep (by omega) (λk h1 _ h3=>by
  rw [B k (by omega) (by rw [n0 k h1,h3];simp)];exact b1.block k h1) (λk h1 _ h3=>by rw [σo k (by omega) (by rw [n0 k h1,h3];simp),n0 k h1];exact h3) λ_ _=>rfl
 exact {
  rols:=rl2
  oo:=hO2
  ro:=λk hk=>by unfold took;rw [if_pos hk]
  od:=h.od.keep λk hk=>by
   have h1:=h.od.lt hk
   rw [B k (by omega) (by rw [n0 k h1,h.rd k hk];simp)];exact b1.block k h1
  rd:=λk hk=>by
   have h1:=h.od.lt hk
   rw [σo k (by omega) (by rw [n0 k h1,h.rd k hk];simp),n0 k h1];exact h.rd k hk
  cs:=P1.other rl hs2 (λk h1 h2 h3=>B k h1 (by rcases h3 with h3|⟨j,h3⟩<;>rw [h3]<;>simp)) (λk j hk=>by rw [σo k (rl.lt k (by rw [hk];simp)) (by rw [hk];simp)];exact hk) (λk h1 _ h3=>by rw [σo k h1 (by rw [h3];simp)];exact h3) (λ_ _=>rfl) rfl λj f hf=>⟨f,hf,rfl⟩
  ca:=P2.other rl hs2 (λk h1 h2 h3=>B k h1 (by rcases h3 with h3|⟨j,h3⟩<;>rw [h3]<;>simp)) (λk j hk=>by rw [σo k (rl.lt k (by rw [hk];simp)) (by rw [hk];simp)];exact hk) (λk h1 _ h3=>by rw [σo k h1 (by rw [h3];simp)];exact h3) (λ_ _=>rfl) rfl λj f hf=>⟨f,hf,rfl⟩
  fa:=λL hL q hq=>by
   rcases List.mem_append.1 hL with h1|h1
   ·exact fixk q (h.fa L h1 q hq)
   ·simp at h1;subst h1;simp at hq;subst hq;exact fixk _ hfx
  fd:=λL hL q hq=>fixk q (h.fd L hL q hq)}
theorem TAll.copy (h:TAll σ ρ W xo es Ss As xd ds Sd Ad) (hnew:∀ k,W.heap.size<=k->ρ k=none) {i:Nat} {e:Tld} {S:List za} {A:List (zW × Ans)} (he:es[i]?=some e) (hS:Ss[i]?=some S) (hA:As[i]?=some A) (hs1:W.heap.size<=W1.heap.size) {r:Sl}
  (hO1:zGv W1 r (ds++[e])) (hcase:(Sl.v r).ownBlock=(Sl.v xd).ownBlock/\W.grownBy W1 (Sl.v xd).ownBlock∨Bel W W1/\∀ q,(Sl.v r).ownBlock=some q->W.heap.size<=q):
  TAll (took σ r .dn) ρ W1 xo es Ss As r (ds++[e]) (Sd++[S]) (Ad++[A]):=by
 have hc2:(Sl.v r).ownBlock=(Sl.v xd).ownBlock∨∀ q,(Sl.v r).ownBlock=some q->W.heap.size<=q:=hcase.imp (·.1) (·.2)
 have σo:∀ k,k<W.heap.size->σ k≠some .dn->took σ r .dn k=σ k:=λk hk hn=>zEL (W:=W) h.rd hc2 hk hn
 have B:∀ k,k<W.heap.size->σ k≠some .dn->W1.heap[k]?=W.heap[k]?:=λk hk hn=>by
  rcases hcase with ⟨_,h2⟩|⟨h2,_⟩
  ·exact h2.block k hk λe=>hn (h.rd k e.symm)
  ·exact h2.block k hk
 have fixk:∀ q,Fix σ ρ W q->Fix (took σ r .dn) ρ W1 q:=λq hq=>hq.keep hs1 (λk h1 _ h3=>B k h1 (by rw [h3];simp)) (λk h1 _ h3=>by rw [σo k h1 (by rw [h3];simp)];exact h3) λ_ _=>rfl
 exact {
  rols:=zKy h.rols hnew hs1 (λk hk=>hO1.lt hk) h.rd hc2
  oo:=h.oo.keep λk hk=>B k (h.oo.lt hk) (by rw [h.ro k hk];simp)
  ro:=λk hk=>by rw [σo k (h.oo.lt hk) (by rw [h.ro k hk];simp)];exact h.ro k hk
  od:=hO1
  rd:=λk hk=>by unfold took;rw [if_pos hk]
  cs:=(h.cs.copy (λ_=>rfl) h.rols he hS).other h.rols hs1 (λk h1 h2 h3=>B k h1 (by rcases h3 with h3|⟨j,h3⟩<;>rw [h3]<;>simp)) (λk j hk=>by rw [σo k (h.rols.lt k (by rw [hk];simp)) (by rw [hk];simp)];exact hk) (λk h1 _ h3=>by rw [σo k h1 (by rw [h3];simp)];exact h3) (λ_ _=>rfl) rfl λj f hf=>⟨f,hf,rfl⟩
  ca:=(h.ca.copy (λ_=>rfl) h.rols he hA).other h.rols hs1 (λk h1 h2 h3=>B k h1 (by rcases h3 with h3|⟨j,h3⟩<;>rw [h3]<;>simp)) (λk j hk=>by rw [σo k (h.rols.lt k (by rw [hk];simp)) (by rw [hk];simp)];exact hk) (λk h1 _ h3=>by rw [σo k h1 (by rw [h3];simp)];exact h3) (λ_ _=>rfl) rfl λj f hf=>⟨f,hf,rfl⟩
  fa:=λL hL q hq=>fixk q (h.fa L hL q hq)
  fd:=λL hL q hq=>by
   rcases List.mem_append.1 hL with h1|h1
   ·exact fixk q (h.fd L h1 q hq)
   ·simp at h1;subst h1;exact fixk q (h.fa _ (List.mem_of_getElem? hA) q hq)}
end
end Go.Proofs.YtealcoghiaeiiaaGreat.VG
set_option linter.unusedVariables false
set_option linter.unusedSimpArgs false
namespace Go.Proofs.YtealcoghiaeiiaaGreat.VG
open Go.VB Go.Proofs
def zB5 (x0:Sl) (Ret:Sl->World->Prop) (x4:Option Addr) (x5:Option Addr) (x10:Int) (w:World) (Kl1:Int->World->Prop):Prop:=
 ((x10<(x0.len:Int))->(opB zA zB (zF 46 (Sl.v x0) (.int .i64 x10)) w (λx15=>opB zA zB (zN 56 (.pointer x15) 0) w (λx16=>opB zA (zV .i64) (zD 3 (.pointer x16)) w (λx17=>opB zA zB (zN 49 (.pointer x4) 1) w (λx18=>opB zA (zV .i64) (zD 3 (.pointer x18)) w (λx19=>yM w (λw=>((x17=x19)->(regC w (λC2 w=>opC C2 zA zB (zF 46 (Sl.v x0) (.int .i64 x10)) (λx25=>opC C2 zA zB (zN 56 (.pointer x25) 1) (λx26=>opC C2 zA Sl.v (zD 45 (.pointer x26)) (λx27=>opC C2 zA za.v (zD 49 (.pointer x4)) (λx28=>opE zA Sl.v (ze 45 1 [(0,(za.v x28))].toArray) w (λx29 w=>C2 w/\(opE zA Sl.v (Builtin.append_ #[45,45] 45 [(Sl.v x27),(Sl.v x29)].toArray) w (λx30 w=>C2 w/\(opC C2 zA zB (zF 46 (Sl.v x0) (.int .i64 x10)) (λx31=>opC C2 zA zB (zN 56 (.pointer x31) 1) (λx32=>opU zA (zK 45 (.pointer x32) (Sl.v x30)) w (λw=>(regC w (λC3 w=>opC C3 zA zB (zF 46 (Sl.v x0) (.int .i64 x10)) (λx37=>opC C3 zA zB (zN 56 (.pointer x37) 2) (λx38=>opC C3 zA Sl.v (zD 54 (.pointer x38)) (λx39=>opC C3 zA zW.v (zD 51 (.pointer x5)) (λx40=>opE zA Sl.v (ze 54 1 [(0,(zW.v x40))].toArray) w (λx41 w=>C3 w/\(opE zA Sl.v (Builtin.append_ #[54,54] 54 [(Sl.v x39),(Sl.v x41)].toArray) w (λx42 w=>C3 w/\(opC C3 zA zB (zF 46 (Sl.v x0) (.int .i64 x10)) (λx43=>opC C3 zA zB (zN 56 (.pointer x43) 2) (λx44=>opU zA (zK 54 (.pointer x44) (Sl.v x42)) w (λw=>(Ret x0 w))))))))))))))))))))))))))))/\(¬ (x17=x19)->(Kl1 (zC .i64 (x10+1)) w))))))))))/\(¬ (x10<(x0.len:Int))->(opE zA zB (zN 49 (.pointer x4) 1) w (λx48 w=>opE zA (zV .i64) (zD 3 (.pointer x48)) w (λx49 w=>opE zA za.v (zD 49 (.pointer x4)) w (λx50 w=>opE zA Sl.v (ze 45 1 [(0,(za.v x50))].toArray) w (λx51 w=>opE zA zW.v (zD 51 (.pointer x5)) w (λx52 w=>opE zA Sl.v (ze 54 1 [(0,(zW.v x52))].toArray) w (λx53 w=>opE zA zm.v (yr 56 [(0,(.int .i64 x49)),(1,(Sl.v x51)),(2,(Sl.v x53))].toArray) w (λx54 w=>opE zA Sl.v (ze 46 1 [(0,(zm.v x54))].toArray) w (λx55 w=>opE zA Sl.v (Builtin.append_ #[46,46] 46 [(Sl.v x0),(Sl.v x55)].toArray) w (λx56 w=>Ret x56 w)))))))))))
def zFO (x0:Sl) (x1:za) (x2:zW) (w:World) (Ret:Sl->World->Prop):Prop:=
 opE zA zB (Instr.box 49 (za.v x1)) w (λx4 w=>opE zA zB (Instr.box 51 (zW.v x2)) w (λx5 w=>∃ (I:Int->World->Prop) (μ:Int->World->Nat),I 0 w/\∀ (x10:Int) w,I x10 w->zB5 x0 Ret x4 x5 x10 w (λx10' w'=>I x10' w'/\μ x10' w'<μ x10 w)))
set_option maxRecDepth 100000 in
theorem zJQ (x0:Sl) (x1:za) (x2:zW) (w:World) (Ret:Sl->World->Prop) (H:zFO x0 x1 x2 w Ret):Cl zA 20 [(Sl.v x0),(za.v x1),(zW.v x2)].toArray w (λe w'=>∃ (r0:Sl),e=.returned (Sl.v r0)/\Ret r0 w'):=by
 unfold zFO at H
 refine zp 57 (zipE 0 [(Sl.v x0),(za.v x1),(zW.v x2)]) Tryz.func20 rfl rfl (by rfl) rfl ?_
 intro a g
 have g:Sat [] 57 [(0,(Sl.v x0)),(1,(za.v x1)),(2,(zW.v x2))] a:=g
 refine zI (zE (g.o (zBc g rfl) H λx4 w a H g=>g.o (zBc g rfl) H λx5 w a H g=>g.s rfl λ_ g=>zL (tn (zI (zI (zE (g.m rfl λ_ g=>g.purR (λw=>ZU g Tryz.underlying46 rfl) λ_ g=>g.m rfl λ_ g=>zL (tn (zX ?_)))))))))
 obtain ⟨I_l1,μ_l1,h0,hb⟩:=H
 refine yE (ds:=[]) (N:=57) (σ:=Int) (λs=>[(10,(.int .i64 s)),(0,(Sl.v x0)),(4,(.pointer x4)),(5,(.pointer x5)),(9,(.int .i64 (x0.len:Int)))]) (λs w=>I_l1 s w) (λs w=>μ_l1 s w) 0 h0 (g.k) ?_
 intro x10 w a hI g
 try dsimp only at hI g
 obtain ⟨Kl1,hK_l1⟩:∃ K:Int->World->Prop,K=(λx10' w'=>I_l1 x10' w'/\μ_l1 x10' w'<μ_l1 x10 w):=⟨_,rfl⟩
 have H:zB5 x0 Ret x4 x5 x10 w Kl1:=by rw [hK_l1];exact hb x10 w hI
 clear hb h0 hI
 unfold zB5 at H
 refine zI (zE (g.p (yR g rfl rfl) λ_ g=>zL (tn (zI (zd g rfl (λhc=>?_) (λhc=>?_))))))
 ·have H:=H.1 hc
  refine zY (tn (zI (zX (zI (zE (g.m rfl λ_ g=>g.s rfl λ_ g=>zL (tn (zI (QU (by kernel_rfl) (by kernel_rfl) (g.t rfl λ_ g=>g.t rfl λ_ g=>g.A (zH g rfl rfl) H λx15 a H g=>g.A (zP g rfl) H λx16 a H g=>g.A (zO g rfl) H λx17 a H g=>g.A (zP g rfl) H λx18 a H g=>g.A (zO g rfl) H λx19 a H g=>g.r (Zb g rfl rfl) λ_ g=>Qb (λw hB=>?_)))))))))))
  replace H:=H w hB
  refine (tn (zd g rfl (λhc=>?_) (λhc=>?_)))
  ·have H:=H.1 hc
   refine zI (zLt 12 H 13 (λC2 w hC0 H=>g.kp 0 rfl hC0 (xu (zR g rfl)) λ_ g=>g.kp 1 rfl hC0 (xu (zR g rfl)) λ_ g=>g.kp 2 rfl hC0 (xu (zR g rfl)) λ_ g=>g.kp 3 rfl hC0 (xu (zR g rfl)) λ_ g=>g.ko 4 rfl hC0 (zH g rfl rfl) H λx25 a H g=>g.ko 5 rfl hC0 (zP g rfl) H λx26 a H g=>g.ko 6 rfl hC0 (zO g rfl) H λx27 a H g=>g.ko 7 rfl hC0 (zO g rfl) H λx28 a H g=>WK.on 8 rfl ?_))
   intro K hK
   refine g.i (yj g rfl) H λx29 w a H g=>hK _ _ ⟨H.1,?_⟩
   have hC1:=H.1
   have H:=H.2
   refine WK.on 9 rfl ?_
   intro K hK
   refine g.i (zA6 g rfl) H λx30 w a H g=>hK _ _ ⟨H.1,?_⟩
   have hC2:=H.1
   have H:=H.2
   refine g.ko 10 rfl hC2 (zH g rfl rfl) H λx31 a H g=>g.ko 11 rfl hC2 (zP g rfl) H λx32 a H g=>WK.la 12 rfl ?_
   intro K hK
   refine g.wopu (zT g rfl rfl) H λw a H g=>hK _ _ (WK.nil (by kernel_rfl) ((tn (zI (zLt 12 H 13 (λC3 w hC0 H=>g.kp 0 rfl hC0 (xu (zR g rfl)) λ_ g=>g.kp 1 rfl hC0 (xu (zR g rfl)) λ_ g=>g.kp 2 rfl hC0 (xu (zR g rfl)) λ_ g=>g.kp 3 rfl hC0 (xu (zR g rfl)) λ_ g=>g.ko 4 rfl hC0 (zH g rfl rfl) H λx37 a H g=>g.ko 5 rfl hC0 (zP g rfl) H λx38 a H g=>g.ko 6 rfl hC0 (zO g rfl) H λx39 a H g=>g.ko 7 rfl hC0 (zO g rfl) H λx40 a H g=>WK.on 8 rfl ?_))))))
   intro K hK
   refine g.i (yj g rfl) H λx41 w a H g=>hK _ _ ⟨H.1,?_⟩
   have hC1:=H.1
   have H:=H.2
   refine WK.on 9 rfl ?_
   intro K hK
   refine g.i (zA6 g rfl) H λx42 w a H g=>hK _ _ ⟨H.1,?_⟩
   have hC2:=H.1
   have H:=H.2
   refine g.ko 10 rfl hC2 (zH g rfl rfl) H λx43 a H g=>g.ko 11 rfl hC2 (zP g rfl) H λx44 a H g=>WK.la 12 rfl ?_
   intro K hK
   exact g.wopu (zT g rfl rfl) H λw a H g=>hK _ _ (WK.nil (by kernel_rfl) ((tn (zI (zE (g.m rfl λ_ g=>g.s rfl λ_ g=>zL (tn (zl (br (tr (tr (br (tr (zw g rfl rfl ⟨_,rfl,H⟩))))))))))))))
  ·have H:=H.2 hc
   refine zY (bn (tn (zE (g.p (zr g rfl rfl) λ_ g=>g.m rfl λ_ g=>?_))))
   rw [hK_l1] at H
   exact zL (tn ⟨(zC .i64 (x10+1)),g.k,H⟩)
 ·have H:=H.2 hc
  exact z7 (te (te (be (tn (zI (zE (g.m rfl λ_ g=>g.o (zP g rfl) H λx48 w a H g=>g.o (zO g rfl) H λx49 w a H g=>g.o (zO g rfl) H λx50 w a H g=>g.o (yj g rfl) H λx51 w a H g=>g.o (zO g rfl) H λx52 w a H g=>g.o (yj g rfl) H λx53 w a H g=>g.o (Z5 g rfl) H λx54 w a H g=>g.o (yj g rfl) H λx55 w a H g=>g.o (zA6 g rfl) H λx56 w a H g=>g.s rfl λ_ g=>zL (tn (zl (zw g rfl rfl ⟨_,rfl,H⟩))))))))))
end Go.Proofs.YtealcoghiaeiiaaGreat.VG
set_option linter.unusedVariables false
set_option linter.unusedSimpArgs false
namespace Go.VB
open Go.RowKit
theorem OwnS.lit1 {α:Type} {c:α->List Value} {n e base:Nat} {w:World} (hc:∀ x,(c x).length=n) (hbw:base<=w.heap.size) (x:α):OwnS c n e base (w.alloc (.cells (c x).toArray e)) ⟨some ⟨w.heap.size,0,none⟩,1,1⟩ [x]:=by
 refine ⟨rfl,by simp,⟨by simp [hc],.inr ⟨w.heap.size,1,(c x).toArray,rfl,hbw,zKC w _,zU _,by simp [maxLen],by simp [hc],?_⟩⟩⟩
 simp only [Nat.one_mul]
 simp only [List.flatMap_cons,List.flatMap_nil,List.append_nil] at*
 exact List.take_of_length_le (Nat.le_of_eq (hc x))
section
variable {P:Program} {w:World} {α:Type} {c:α->List Value} {n e t bytes base:Nat}
theorem zOv {s:Sl} {xs:List α} {x:α} {vx:Value} (hO:OwnS c n e base w s xs) (hc:∀ x,(c x).length=n) (h1:∀ x,(c x).all (·.oneCell')=true) (hn:0<n)
  (hu:P.underlying t=some (.slice e)) {z:Value} (hi:(P.info? e).map (λi=>(i.zero,i.size,i.bytes))=some (some z,n,bytes)) (hz:z.cells.size=n)
  (hbs:∀ w,(ze t 1 [(0,vx)].toArray).run P w=.ok (Sl.v ⟨some ⟨w.heap.size,0,none⟩,1,1⟩) (w.alloc (.cells (c x).toArray e)))
  (hbw:base<=w.heap.size) (hsmall:xs.length+1<=140737488355328) (room:(xs.length+xs.length / 4+512)*bytes<=281474976710656) {k:Sl->World->Prop} {ty:TypeId}
  (H:∀ s' w',OwnS c n e base w' s' (xs++[x])->((Sl.v s').ownBlock=(Sl.v s).ownBlock/\w.grownBy w' (Sl.v s).ownBlock∨Bel w w'/\∀ q,(Sl.v s').ownBlock=some q->w.heap.size<=q)->k s' w'):
  opE P Sl.v (ze t 1 [(0,vx)].toArray) w (λy w=>opE P Sl.v (Builtin.append_ #[t,t] ty [Sl.v s,Sl.v y].toArray) w k):=by
 obtain ⟨y,w1,hr,h2⟩:=zMe (J:=λ_=>True) (k:=k) (ty:=ty) hO hc h1 hn hu hi hz hbs hbw hsmall room (λ_ _=>trivial) H
 exact ⟨y,w1,hr,h2.2⟩
theorem zO7 {C:World->Prop} {s:Sl} {ad:Addr} {i:Nat} (hu:P.underlying t=some (.slice e)) (hs:∀ w,(sizeOf e).run P w=.ok n w) (ha:s.a=some ad) (hi:i<s.len) {k:Option Addr->Prop} (H:k (some (ad.add (i*n)))):opC C P zB (zF t (Sl.v s) (.int .i64 (i:Int))) k:=
 ⟨_,λw _=>by simpa using zJB (k:=.i64) hu hs (w:=w) (s:=s) (i:=(i:Int)) ha (by omega) (by omega),H⟩
end
end Go.VB
namespace Go.Proofs.YtealcoghiaeiiaaGreat.VG
open Go.VB Go.Proofs Go.RowKit
theorem slv (z:Sl):(Sl.v z).cells.toList=[Sl.v z]/\(Sl.v z).oneCell'=true:=by cases z with|mk a l c=>cases a<;>exact ⟨rfl,rfl⟩
theorem zK2 (x:Tld):x.cells.all (·.oneCell')=true:=by
 obtain ⟨a1,⟨a2,a21,a22⟩,⟨a3,a31,a32⟩⟩:=x
 cases a2<;>cases a3<;>rfl
abbrev maxN:Nat:=2199023255552
theorem zRJ {σ:Rol} {ρ:Own} {W:World} {xo xd:Sl} {es ds:List Tld} {Ss Sd:List (List za)} {As Ad:List (List (zW × Ans))} (T:TAll σ ρ W xo es Ss As xd ds Sd Ad) (hnew:∀ k,W.heap.size<=k->ρ k=none)
  (x:za) (p:zW × Ans) (hp:Fix σ ρ W p) (hN:es.length<maxN) (hNS:∀ S∈Ss,S.length<maxN) (hNA:∀ A∈As,A.length<maxN) {k:Sl->World->Prop}
  (H1:∀ i e S A σ' W' e',es[i]?=some e->e.tx=x.Tx->Ss[i]?=some S->As[i]?=some A->e'.tx=e.tx->TAll σ' ρ W' xo (es.set i e') (Ss.set i (S++[x])) (As.set i (A++[p])) xd ds Sd Ad->Out (λk=>σ k≠none) W W'->(∀ k,k<W.heap.size->σ k=none->σ' k=none)->k xo W')
  (H2:(∀ e∈es,e.tx≠x.Tx)->∀ r σ' W' e',e'.tx=x.Tx->TAll σ' ρ W' r (es++[e']) (Ss++[[x]]) (As++[[p]]) xd ds Sd Ad->Out (λk=>σ k≠none) W W'->(∀ k,k<W.heap.size->σ k=none->σ' k=none)->k r W'):
  Cl zA zJG [Sl.v xo,za.v x,zW.v p.1].toArray W (λe w'=>∃ r0:Sl,e=.returned (Sl.v r0)/\k r0 w'):=by
 refine zJQ xo x p.1 W k ?_
 unfold zFO
 refine zAo (cs:=x.cells) rfl λX W1 b1 hX hX0=>?_
 refine zAo (cs:=p.1.cells) rfl λY W2 b2 hY hY0=>?_
 have b02:=b1.trans b2
 replace hX:=hX.bel b2
 have s1:=b1.le;have s2:=b2.le
 have hol:=T.oo.len
 have hosm:=T.oo.small
 refine ⟨λi V=>∃ n:Nat,i=(n:Int)/\n<=es.length/\Bel W2 V/\∀ e∈es.take n,e.tx≠x.Tx,λi _=>(xo.len - i).toNat,⟨0,rfl,by omega,Bel.refl _,by simp⟩,?_⟩
 rintro i V ⟨n,rfl,hn,hb,hno⟩
 have b0V:=b02.trans hb
 have TV:=T.bel b0V
 have hXV:=hX.bel hb
 have hYV:=hY.bel hb
 have hXl:=hX.lt;have hYl:=hY.lt
 have sV:=b0V.le;have sV2:=hb.le
 have hnewV:∀ k,V.heap.size<=k->ρ k=none:=λk hk=>hnew k (by omega)
 have hpV:Fix σ ρ V p:=hp.keep (by omega) (λk h1 _ _=>b0V.block k h1) (λ_ _ _ h=>h) λ_ _=>rfl
 unfold zB5
 refine ⟨λhc=>?_,λhc=>?_⟩
 ·obtain ⟨e,he⟩:=getE (l:=es) (n:=n) (by omega)
  have hR:Rd zm.cells 3 V xo es:=TV.oo.rd λ_=>rfl
  refine zIF hR Yd ZX (by omega) (x:=e) (by simpa using he) λad0 hA0=>?_
  refine zGV zFj zAM hA0 e.tx rfl ?_
  refine zGV Zu zAM hXV.at x.Tx rfl ?_
  intro W3 b3
  refine ⟨λheq=>?_,λhne=>?_⟩
  ·-- it is this one
   obtain ⟨S0,hS0⟩:=getE (l:=Ss) (n:=n) (by have:=T.cs.len;omega)
   obtain ⟨A0,hA0'⟩:=getE (l:=As) (n:=n) (by have:=T.ca.len;omega)
   have T3:=TV.bel b3
   have b03:=b0V.trans b3
   have s3:=b03.le;have s3V:=b3.le
   obtain ⟨ad,had,-⟩:=hR.cells n e he
   have hnl:n<xo.len:=by omega
   have cellOf:∀ (w:World) (fs:List Tld) (f:Tld) (j:Nat) (v:Value),zGv w xo fs->fs[n]?=some f->f.cells[j]?=some v->w.cell? ((ad.add (n*3)).add j)=some v:=λw fs f j v hO hf hj=>by
    obtain ⟨ad2,had2,hA2⟩:=(OwnS.rd hO (λ_=>rfl)).cells n f hf
    rw [had] at had2;cases had2
    exact hA2 j v hj
   have own0:∀ k,(Sl.v xo).ownBlock=some k->k<W.heap.size/\σ k=some .op:=λk hk=>by have:=T.ro k hk;exact ⟨T.rols.lt k (by rw [this];simp),this⟩
   obtain ⟨hOs,hOsr⟩:=T3.cs.own n e S0 he hS0
   have owns:∀ k,(Sl.v e.steps).ownBlock=some k->k<W.heap.size/\σ k=some (.st n):=λk hk=>by have:=hOsr k hk;exact ⟨T.rols.lt k (by rw [this];simp),this⟩
   refine ⟨λw=>Row w X x.cells Zl/\zGv w xo es,λW4 b4=>⟨⟨(hXV.bel b3).bel b4,T3.oo.bel b4⟩,?_⟩⟩
   have T4:=T3.bel b4
   have b04:=b03.trans b4
   have s4:=b04.le
   refine zO7 Yd ZX had hnl ?_
   refine zFW zCE ?_
   refine zC3 zGH e.steps (λw hw=>cellOf w es e 1 _ hw.2 he rfl) ?_
   refine zL0 zBq x rfl (λw hw=>hw.1.at) rfl ?_
   have hXl4:X<W4.heap.size:=by have:=b4.le;omega
   have hYl4:Y<W4.heap.size:=by have:=b4.le;omega
   have hSl:=hNS S0 (List.mem_of_getElem? hS0)
   refine zMe (hOs.bel b4) (λ_=>rfl) (λ_=>rfl) (by decide) zGI zKM rfl (zHd x) (Nat.zero_le _) (by unfold maxN at hSl;omega) (by unfold maxN at hSl;omega) (λw hw=>⟨((hXV.bel b3).bel b4).bel hw,(T3.oo.bel b4).bel hw⟩) λz W5 hz hcase=>?_
   have s5:W4.heap.size<=W5.heap.size:=by
    rcases hcase with ⟨_,h⟩|⟨h,_⟩
    ·exact h.size
    ·exact h.le
   have k45:∀ k,k<W4.heap.size->(Sl.v e.steps).ownBlock≠some k->W5.heap[k]?=W4.heap[k]?:=λk hk hne=>by
    rcases hcase with ⟨_,h⟩|⟨h,_⟩
    ·exact h.block k hk λe1=>hne e1.symm
    ·exact h.block k hk
   have hX5:Row W5 X x.cells Zl:=((hXV.bel b3).bel b4).keep (k45 X hXl4 λe1=>by have:=(owns X e1).1;omega)
   have hY5:Row W5 Y p.1.cells Qo:=((hYV.bel b3).bel b4).keep (k45 Y hYl4 λe1=>by have:=(owns Y e1).1;omega)
   have hO5:zGv W5 xo es:=(T3.oo.bel b4).keep λk hk=>k45 k (by have:=(own0 k hk).1;omega) λe1=>by
    have h1:=(owns k e1).2;rw [(own0 k hk).2] at h1;cases h1
   refine ⟨⟨hX5,hO5⟩,?_⟩
   refine zO7 Yd ZX had hnl ?_
   refine zFW zCE ?_
   let e1:Tld:={e with steps:=z}
   obtain ⟨W6,hst6,hO6,hg6⟩:=OwnS.stFld (n:=3) (c:=zm.cells) (λ_=>rfl) hO5 he (y:=e1) (r:=1) (by decide) (v:=Sl.v z) rfl zGH (slv z).1 (slv z).2 had
   refine ⟨W6,hst6,?_⟩
   have hp4:Fix σ ρ W4 p:=hpV.keep (by have:=b3.le;have:=b4.le;omega) (λk h1 _ _=>(b3.trans b4).block k h1) (λ_ _ _ h=>h) λ_ _=>rfl
   have T6:=T4.appS (λk hk=>hnew k (by omega)) (e1:=e1) he hS0 rfl s5 hz hcase hg6 hO6 (by simp)
   have s6:=hg6.size
   have he1:(es.set n e1)[n]?=some e1:=List.getElem?_set_self (by omega)
   have σ6:∀ k,k<W4.heap.size->σ k=none->took σ e1.steps (.st n) k=none:=λk hk h1=>by
    rw [zEL (W:=W4) (s:=e.steps) (λq hq=>(owns q hq).2) (hcase.imp (·.1) (·.2)) hk (by rw [h1];simp)];exact h1
   have op6:∀ k,(Sl.v xo).ownBlock=some k->took σ e1.steps (.st n) k=some .op:=T6.ro
   have k46:∀ k,k<W4.heap.size->σ k=none->W6.heap[k]?=W4.heap[k]?:=λk hk h1=>by
    rw [hg6.block k (by omega) (λe2=>by have:=(own0 k e2.symm).2;rw [h1] at this;cases this),k45 k hk (λe2=>by have:=(owns k e2).2;rw [h1] at this;cases this)]
   have hY6:Row W6 Y p.1.cells Qo:=hY5.keep (hg6.block Y (by omega) λe2=>by have:=(own0 Y e2.symm).1;omega)
   have hp6:Fix (took σ e1.steps (.st n)) ρ W6 p:=hp4.keep (by omega) (λk h1 _ h3=>k46 k h1 h3) (λk h1 _ h3=>σ6 k h1 h3) λ_ _=>rfl
   obtain ⟨hOa,hOar⟩:=T6.ca.own n e1 A0 he1 hA0'
   have hY6l:=hY6.lt
   have ownY:took σ e1.steps (.st n) Y=none:=σ6 Y hYl4 (by
    cases hq:σ Y with
    |none=>rfl
    |some r=>have:=T.rols.lt Y (by rw [hq];simp);omega)
   refine ⟨λw=>Row w Y p.1.cells Qo/\zGv w xo (es.set n e1),λW7 b7=>⟨⟨hY6.bel b7,hO6.bel b7⟩,?_⟩⟩
   have T7:=T6.bel b7
   have s7:=b7.le
   refine zO7 Yd ZX had hnl ?_
   refine zFW zCQ ?_
   refine zC3 zFY e1.seen (λw hw=>cellOf w _ e1 2 _ hw.2 he1 rfl) ?_
   refine zL0 Zk p.1 rfl (λw hw=>hw.1.at) rfl ?_
   have hAl:=hNA A0 (List.mem_of_getElem? hA0')
   refine zMe (x:=p) (hOa.bel b7) (λ_=>rfl) (λq=>zPC q.1) (by decide) zG4 zJN rfl (zGx p.1) (Nat.zero_le _) (by unfold maxN at hAl;omega) (by unfold maxN at hAl;omega) (λw hw=>⟨(hY6.bel b7).bel hw,(hO6.bel b7).bel hw⟩) λz2 W8 hz2 hcase2=>?_
   have s8:W7.heap.size<=W8.heap.size:=by
    rcases hcase2 with ⟨_,h⟩|⟨h,_⟩
    ·exact h.size
    ·exact h.le
   have k78:∀ k,k<W7.heap.size->took σ e1.steps (.st n) k≠some (.se n)->W8.heap[k]?=W7.heap[k]?:=λk hk hne=>by
    rcases hcase2 with ⟨_,h⟩|⟨h,_⟩
    ·exact h.block k hk λe2=>hne (hOar k e2.symm)
    ·exact h.block k hk
   have hY8:Row W8 Y p.1.cells Qo:=(hY6.bel b7).keep (k78 Y (by omega) (by rw [ownY];simp))
   have hO8:zGv W8 xo (es.set n e1):=(hO6.bel b7).keep λk hk=>k78 k (by have:=(own0 k hk).1;omega) (by rw [op6 k hk];simp)
   refine ⟨⟨hY8,hO8⟩,?_⟩
   refine zO7 Yd ZX had hnl ?_
   refine zFW zCQ ?_
   let e2:Tld:={e1 with seen:=z2}
   obtain ⟨W9,hst9,hO9,hg9⟩:=OwnS.stFld (n:=3) (c:=zm.cells) (λ_=>rfl) hO8 he1 (y:=e2) (r:=2) (by decide) (v:=Sl.v z2) rfl zFY (slv z2).1 (slv z2).2 had
   refine ⟨W9,hst9,?_⟩
   have hp7:Fix (took σ e1.steps (.st n)) ρ W7 p:=hp6.keep (by omega) (λk h1 _ _=>b7.block k h1) (λ_ _ _ h=>h) λ_ _=>rfl
   have T9:=T7.appA (λk hk=>hnew k (by omega)) (e1:=e2) he1 hA0' rfl s8 hz2 hcase2 hg9 hO9 (by simpa using hp7)
   have s9:=hg9.size
   rw [List.set_set] at T9
   have σ9:∀ k,k<W.heap.size->σ k=none->took (took σ e1.steps (.st n)) e2.seen (.se n) k=none:=λk hk h1=>by
    have h2:=σ6 k (by omega) h1
    rw [zEL (W:=W7) (s:=e1.seen) hOar (hcase2.imp (·.1) (·.2)) (by omega) (by rw [h2];simp)];exact h2
   refine H1 n e S0 A0 _ W9 e2 he heq hS0 hA0' rfl T9 ?_ σ9
   have o46:Out (λk=>σ k≠none) W4 W6:=by
    refine Out.trans (T:=λk=>(Sl.v xo).ownBlock=some k) ?_ (Out.row hg6 λk hk=>.inl hk) λk hk h1=>by rw [(own0 k h1).2];simp
    rcases hcase with ⟨_,h⟩|⟨h,_⟩
    ·exact Out.row h λk hk=>.inl (by rw [(owns k hk).2];simp)
    ·exact h.out
   have o79:Out (λk=>took σ e1.steps (.st n) k≠none) W7 W9:=by
    refine Out.trans (T:=λk=>(Sl.v xo).ownBlock=some k) ?_ (Out.row hg9 λk hk=>.inl hk) λk hk h1=>by rw [op6 k h1];simp
    rcases hcase2 with ⟨_,h⟩|⟨h,_⟩
    ·exact Out.row h λk hk=>.inl (by rw [hOar k hk];simp)
    ·exact h.out
   refine (((b04.out (S:=λk=>σ k≠none)).trans o46 λk _ h=>h).trans b7.out λk _ h=>h).trans o79 λk hk h=>?_
   intro h0
   exact h (σ6 k (by omega) h0)
  ·rw [wr64 (by omega) (by omega)]
   refine ⟨⟨n+1,by omega,by omega,hb.trans b3,λf hf=>?_⟩,by dsimp only;omega⟩
   rw [zA0 he] at hf
   rcases List.mem_append.1 hf with h1|h1
   ·exact hno f h1
   ·simp at h1;subst h1;exact hne
 ·obtain rfl:n=es.length:=by omega
  rw [List.take_length] at hno
  refine yA Zu zAM hXV.at x.Tx rfl ?_
  refine Za zBq x rfl hXV.at rfl ?_
  refine ⟨_,_,zHd x V,?_⟩
  have hS:=OwnS.lit1 (c:=za.cells) (n:=5) (e:=Zl) (base:=0) (λ_=>rfl) (Nat.zero_le V.heap.size) x
  have b3:=Bel.alloc V (.cells x.cells.toArray Zl)
  have z3:=size_alloc' V (.cells x.cells.toArray Zl)
  generalize hV3:V.alloc (.cells x.cells.toArray Zl)=V3 at hS b3 z3 ⊢
  refine Za Zk p.1 rfl (hYV.bel b3).at rfl ?_
  refine ⟨_,_,zGx p.1 V3,?_⟩
  have hA:=OwnS.lit1 (c:=cAns) (n:=7) (e:=Qo) (base:=0) (λ_=>rfl) (Nat.zero_le V3.heap.size) p
  have b4:=Bel.alloc V3 (.cells (cAns p).toArray Qo)
  have z4:=size_alloc' V3 (.cells (cAns p).toArray Qo)
  change opE zA _ _ (V3.alloc (.cells (cAns p).toArray Qo)) _
  generalize hV4:V3.alloc (.cells (cAns p).toArray Qo)=V4 at hA b4 z4 ⊢
  let e1:Tld:=⟨x.Tx,⟨some ⟨V.heap.size,0,none⟩,1,1⟩,⟨some ⟨V3.heap.size,0,none⟩,1,1⟩⟩
  refine ⟨e1,V4,by kernel_rfl,?_⟩
  have T4:=(TV.bel b3).bel b4
  have b34:=b3.trans b4
  refine zOv (x:=e1) T4.oo (λ_=>rfl) zK2 (by decide) Yd zFZ rfl (zFs e1) (Nat.zero_le _) (by unfold maxN at hN;omega) (by unfold maxN at hN;omega) λr W5 hO5 hcase=>?_
  have s5:V4.heap.size<=W5.heap.size:=by
   rcases hcase with ⟨_,h⟩|⟨h,_⟩
   ·exact h.size
   ·exact h.le
  have T5:=TV.push hnewV (W1:=V4) (e1:=e1) (x:=x) (p:=p) b34 (hS.bel b4) (λk hk=>by cases hk;exact zU _) hA (λk hk=>by have h1:V3.heap.size=k:=Option.some.inj hk;omega) (λk hk e2=>by have h1:V.heap.size=k:=Option.some.inj hk;have h2:V3.heap.size=k:=Option.some.inj e2;omega) s5 hO5 hcase hpV
  have own0:∀ k,(Sl.v xo).ownBlock=some k->k<W.heap.size/\σ k=some .op:=λk hk=>by have:=T.ro k hk;exact ⟨T.rols.lt k (by rw [this];simp),this⟩
  refine H2 hno r _ W5 e1 rfl T5 ?_ λk hk h1=>?_
  ·refine ((b0V.trans b34).out (S:=λk=>σ k≠none)).trans (T:=λk=>(Sl.v xo).ownBlock=some k) ?_ λk hk h1=>by rw [(own0 k h1).2];simp
   rcases hcase with ⟨_,h⟩|⟨h,_⟩
   ·exact Out.row h λk hk=>.inl hk
   ·exact h.out
  ·have hn0:newR σ e1 es.length k=none:=by
    unfold newR
    rw [if_neg λe2=>by have h5:V.heap.size=_:=Option.some.inj e2;omega,if_neg λe2=>by have h5:V3.heap.size=_:=Option.some.inj e2;omega]
    exact h1
   rw [zEL (W:=V4) (s:=xo) (λq hq=>?_) (hcase.imp (·.1) (·.2)) (by omega) (by rw [hn0];simp)]
   ·exact hn0
   ·have h3:=own0 q hq
    unfold newR
    rw [if_neg λe2=>by have h5:V.heap.size=_:=Option.some.inj e2;omega,if_neg λe2=>by have h5:V3.heap.size=_:=Option.some.inj e2;omega]
    exact h3.2
end Go.Proofs.YtealcoghiaeiiaaGreat.VG
set_option linter.unusedVariables false
set_option linter.unusedSimpArgs false
namespace Go.Proofs.YtealcoghiaeiiaaGreat.VG
open Go.VB Go.Proofs
def zBQ (Ret:Bool->World->Prop) (x39:Bool) (w:World):Prop:=
 Ret x39 w
def Yq (x42:Int) (Kl3:Sl->Sl->Int->World->Prop) (x7_1:Sl) (x8_1:Sl) (w:World):Prop:=
 Kl3 x7_1 x8_1 (zC .i64 (x42+1)) w
def ZP (x61:Int) (Kl5:Sl->Int->World->Prop) (x8_3:Sl) (w:World):Prop:=
 Kl5 x8_3 (zC .i64 (x61+1)) w
def zA8 (x7:Sl) (x42:Int) (Kl3:Sl->Sl->Int->World->Prop) (x10:Option Addr) (x8_2:Sl) (x61:Int) (w:World) (Kl5:Sl->Int->World->Prop):Prop:=
 ((x61<(x7.len:Int))->(opE zA zB (zF 46 (Sl.v x7) (.int .i64 x61)) w (λx63 w=>opE zA zm.v (zD 56 (.pointer x63)) w (λx64 w=>opE zA zB (zf 56 true (.tuple #[])) w (λx13 w=>opU zA (zK 56 (.pointer x13) (zm.v x64)) w (λw=>opE zA zB (zN 56 (.pointer x13) 0) w (λx65 w=>opE zA (zV .i64) (zD 3 (.pointer x65)) w (λx66 w=>opE zA zB (zN 49 (.pointer x10) 1) w (λx67 w=>opE zA (zV .i64) (zD 3 (.pointer x67)) w (λx68 w=>((x66=x68)->(opE zA zm.v (zD 56 (.pointer x13)) w (λx71 w=>opE zA Sl.v (ze 46 1 [(0,(zm.v x71))].toArray) w (λx72 w=>opE zA Sl.v (Builtin.append_ #[46,46] 46 [(Sl.v x8_2),(Sl.v x72)].toArray) w (λx73 w=>ZP x61 Kl5 x73 w)))))/\(¬ (x66=x68)->(ZP x61 Kl5 x8_2 w))))))))))))/\(¬ (x61<(x7.len:Int))->(Yq x42 Kl3 x7 x8_2 w))
def zAH (Ret:Bool->World->Prop) (x116:Bool) (w:World):Prop:=
 Ret x116 w
def Zt (Ret:Bool->World->Prop) (r_1:Option Addr) (x8:Sl) (x14:Sl) (x81:Int) (w:World) (Kl7:Sl->Int->World->Prop):Prop:=
 ((x81<(x8.len:Int))->(opE zA zB (zF 46 (Sl.v x8) (.int .i64 x81)) w (λx83 w=>opE zA zm.v (zD 56 (.pointer x83)) w (λx84 w=>opE zA zB (zf 56 true (.tuple #[])) w (λx16 w=>opU zA (zK 56 (.pointer x16) (zm.v x84)) w (λw=>opE zA zm.v (zD 56 (.pointer x16)) w (λx87 w=>Cl zA 21 [(Sl.v x14),(zm.v x87)].toArray w (λe w=>∃ (r_5:Sl) (r_6:Bool),e=.returned (.tuple [(Sl.v r_5),(.bool r_6)].toArray)/\(((!r_6)=true->(Ret false w))/\((!r_6)=false->(Kl7 r_5 (zC .i64 (x81+1)) w)))))))))))/\(¬ (x81<(x8.len:Int))->(Cl zA 12 [(.pointer r_1)].toArray w (λe w=>∃ (r_7:Int) (r_8:Int),e=.returned (.tuple [(.int .i64 r_7),(.int .i64 r_8)].toArray)/\(((r_8≠0)->(Ret (decide (r_8=3)) w))/\(¬ (r_8≠0)->(Cl zA 17 [(.pointer r_1),(.int .i64 r_7),(.string (ByteArray.mk #[])),(.string (ByteArray.mk #[]))].toArray w (λe w=>∃ (r_9:Sl) (r_10:Int),e=.returned (.tuple [(Sl.v r_9),(.int .i64 r_10)].toArray)/\(((r_10=0)->(Cl zA 18 [(Sl.v r_9),(Sl.v x14)].toArray w (λe w=>∃ (r_11:Bool),e=.returned (.bool r_11)/\(zAH Ret r_11 w))))/\(¬ (r_10=0)->(zAH Ret false w))))))))))
def zA7 (x0:Sl) (x1:Sl) (Ret:Bool->World->Prop) (r_1:Option Addr) (x7:Sl) (x8:Sl) (x42:Int) (w:World) (Kl3:Sl->Sl->Int->World->Prop):Prop:=
 ((x42<(x1.len:Int))->(opE zA zB (zF 45 (Sl.v x1) (.int .i64 x42)) w (λx44 w=>opE zA za.v (zD 49 (.pointer x44)) w (λx45 w=>opE zA zB (zf 49 true (.tuple #[])) w (λx10 w=>opU zA (zK 49 (.pointer x10) (za.v x45)) w (λw=>opE zA za.v (zD 49 (.pointer x10)) w (λx47 w=>Cl zA 19 [(.pointer r_1),(za.v x47)].toArray w (λe w=>∃ (r_3:zW),e=.returned (zW.v r_3)/\(opE zA zB (zf 51 true (.tuple #[])) w (λx11 w=>opU zA (zK 51 (.pointer x11) (zW.v r_3)) w (λw=>opE zA zB (zN 49 (.pointer x10) 0) w (λx49 w=>opE zA (zV .u8) (zD 47 (.pointer x49)) w (λx50 w=>((x50≠6)->(opE zA za.v (zD 49 (.pointer x10)) w (λx53 w=>opE zA zW.v (zD 51 (.pointer x11)) w (λx54 w=>Cl zA 20 [(Sl.v x7),(za.v x53),(zW.v x54)].toArray w (λe w=>∃ (r_4:Sl),e=.returned (Sl.v r_4)/\(Yq x42 Kl3 r_4 x8 w))))))/\(¬ (x50≠6)->(opE zA zB (zN 51 (.pointer x11) 0) w (λx56 w=>opE zA (zV .i64) (zD 27 (.pointer x56)) w (λx57 w=>((x57=0)->(∃ (I:Sl->Int->World->Prop) (μ:Sl->Int->World->Nat),I x8 0 w/\∀ (x8_2:Sl) (x61:Int) w,I x8_2 x61 w->zA8 x7 x42 Kl3 x10 x8_2 x61 w (λx8_2' x61' w'=>I x8_2' x61' w'/\μ x8_2' x61' w'<μ x8_2 x61 w)))/\(¬ (x57=0)->(Yq x42 Kl3 x7 x8 w)))))))))))))))))))/\(¬ (x42<(x1.len:Int))->(opE zA Sl.v (ze 22 0 [].toArray) w (λx76 w=>opE zA Sl.v (Builtin.append_ #[22,22] 22 [(Sl.v x76),(Sl.v x0)].toArray) w (λx78 w=>∃ (I:Sl->Int->World->Prop) (μ:Sl->Int->World->Nat),I x78 0 w/\∀ (x14:Sl) (x81:Int) w,I x14 x81 w->Zt Ret r_1 x8 x14 x81 w (λx14' x81' w'=>I x14' x81' w'/\μ x14' x81' w'<μ x14 x81 w)))))
def ZO (x0:Sl) (x1:Sl) (Ret:Bool->World->Prop) (r_1:Option Addr) (r_2:Int) (x33:Bool) (w:World):Prop:=
 (x33=true->(((r_2≠0)->(opE zA xv (do eqGuard .eql 26 (.tmp 37) (.const (.pointer none)) (.pointer r_1) (.pointer none);binOp .eql 26 (.pointer r_1) (.pointer none)) w (λx38 w=>zBQ Ret x38 w)))/\(¬ (r_2≠0)->(zBQ Ret false w))))/\(x33=false->(∃ (I:Sl->Sl->Int->World->Prop) (μ:Sl->Sl->Int->World->Nat),I Sl.none Sl.none 0 w/\∀ (x7:Sl) (x8:Sl) (x42:Int) w,I x7 x8 x42 w->zA7 x0 x1 Ret r_1 x7 x8 x42 w (λx7' x8' x42' w'=>I x7' x8' x42' w'/\μ x7' x8' x42' w'<μ x7 x8 x42 w)))
def zC4 (x0:Sl) (x1:Sl) (w:World) (Ret:Bool->World->Prop):Prop:=
 Cl zA 10 [].toArray w (λe w=>∃ (r:Bool),e=.returned (.bool r)/\(((!r)=true->(Ret false w))/\((!r)=false->(Cl zA 11 [(Sl.v x0)].toArray w (λe w=>∃ (r_1:Option Addr) (r_2:Int),e=.returned (.tuple [(.pointer r_1),(.int .i64 r_2)].toArray)/\(((r_2≠0)->(ZO x0 x1 Ret r_1 r_2 true w))/\(¬ (r_2≠0)->(opE zA xv (do eqGuard .eql 26 (.tmp 31) (.const (.pointer none)) (.pointer r_1) (.pointer none);binOp .eql 26 (.pointer r_1) (.pointer none)) w (λx32 w=>ZO x0 x1 Ret r_1 r_2 x32 w)))))))))
set_option maxRecDepth 100000 in
theorem zHa (x0:Sl) (x1:Sl) (w:World) (Ret:Bool->World->Prop) (H:zC4 x0 x1 w Ret):Cl zA 4 [(Sl.v x0),(Sl.v x1)].toArray w (λe w'=>∃ (r0:Bool),e=.returned (.bool r0)/\Ret r0 w'):=by
 unfold zC4 at H
 refine zp 117 (zipE 0 [(Sl.v x0),(Sl.v x1)]) Tryz.func4 rfl rfl (by rfl) rfl ?_
 intro a g
 have g:Sat [] 117 [(0,(Sl.v x0)),(1,(Sl.v x1))] a:=g
 refine zI (zE (g.s rfl λ_ g=>zL (tn (zI (zI (zE (g.c (zb g zTU rfl rfl) H λe w H=>?_)))))))
 obtain ⟨r,rfl,H⟩:=H
 refine ⟨_,rfl,λ_ g=>(g.p (zAJ g rfl) λ_ g=>zL (tn (zk g rfl (λhc=>?_) (λhc=>?_))))⟩
 ·have H:=H.1 hc
  exact zI (zE (g.s rfl λ_ g=>zL (tn (zl (tr (zw g rfl rfl ⟨_,rfl,H⟩))))))
 ·have H:=H.2 hc
  refine zY (tn (zI (zE (g.m rfl λ_ g=>g.c (zb g zRu rfl rfl) H λe w H=>?_))))
  obtain ⟨r_1,r_2,rfl,H⟩:=H
  refine ⟨_,rfl,λ_ g=>(g.m rfl λ_ g=>g.p (zc g rfl rfl) λ_ g=>g.p (zc g rfl rfl) λ_ g=>g.s rfl λ_ g=>g.s rfl λ_ g=>zL (tn (zI (zI (zE (g.m rfl λ_ g=>g.p (zFc g rfl rfl) λ_ g=>g.m rfl λ_ g=>WL.join (ds:=[]) (N:=117) (σ:=Bool) (λs=>[(33,(.bool s)),(0,(Sl.v x0)),(1,(Sl.v x1)),(5,(.pointer r_1)),(6,(.int .i64 r_2))]) (λs w=>ZO x0 x1 Ret r_1 r_2 s w) 3 ?_ (λhr1=>?_)))))))⟩
  ·intro x33 w a H g
   try dsimp only at H g
   unfold ZO at H
   refine zL (tn (zk g rfl (λhc=>?_) (λhc=>?_)))
   ·have H:=H.1 hc
    refine zI (zE (g.m rfl λ_ g=>g.p (zFc g rfl rfl) λ_ g=>g.m rfl λ_ g=>WL.join (ds:=[]) (N:=117) (σ:=Bool) (λs=>[(39,(.bool s))]) (λs w=>zBQ Ret s w) 3 ?_ (λhr2=>?_)))
    ·intro x39 w a H g
     try dsimp only at H g
     unfold zBQ at H
     exact g.s rfl λ_ g=>zL (tn (zl (tr (zw g rfl rfl ⟨_,rfl,H⟩))))
    ·rcases Classical.em ((r_2≠0)) with hbr2|hbr2
     ·have H:=H.1 hbr2
      have g:=g.b (b:=true) (t:=36) rfl (decide_eq_true hbr2)
      exact g.z (g.m rfl λ_ g=>g.z (g.o (zCz g rfl rfl) H λx38 w a H g=>g.p (zx g rfl rfl) λ_ g=>hr2 x38 _ _ H (g.k)))
     ·have H:=H.2 hbr2
      have g:=g.b (b:=false) (t:=36) rfl (decide_eq_false hbr2)
      exact g.d (λ_ g=>g.d (λ_ g=>g.p (zy g rfl rfl) λ_ g=>hr2 false _ _ H (g.k)))
   ·have H:=H.2 hc
    refine zY (tn (zI (zE (g.s rfl λ_ g=>g.s rfl λ_ g=>zL (tn (zI (zI (zE (g.m rfl λ_ g=>g.purR (λw=>ZU g Tryz.underlying45 rfl) λ_ g=>g.m rfl λ_ g=>zL (tn (zX ?_)))))))))))
    obtain ⟨I_l3,μ_l3,h0,hb⟩:=H
    refine yE (ds:=[]) (N:=117) (σ:=Sl × Sl × Int) (λs=>[(7,(Sl.v s.1)),(8,(Sl.v s.2.1)),(42,(.int .i64 s.2.2)),(0,(Sl.v x0)),(5,(.pointer r_1)),(40,(Sl.v x1)),(41,(.int .i64 (x1.len:Int)))]) (λs w=>I_l3 s.1 s.2.1 s.2.2 w) (λs w=>μ_l3 s.1 s.2.1 s.2.2 w) (Sl.none,Sl.none,0) h0 (g.k) ?_
    rintro ⟨x7,x8,x42⟩ w a hI g
    try dsimp only at hI g
    obtain ⟨Kl3,hK_l3⟩:∃ K:Sl->Sl->Int->World->Prop,K=(λx7' x8' x42' w'=>I_l3 x7' x8' x42' w'/\μ_l3 x7' x8' x42' w'<μ_l3 x7 x8 x42 w):=⟨_,rfl⟩
    have H:zA7 x0 x1 Ret r_1 x7 x8 x42 w Kl3:=by rw [hK_l3];exact hb x7 x8 x42 w hI
    clear hb h0 hI
    unfold zA7 at H
    refine zI (zE (g.p (yR g rfl rfl) λ_ g=>zL (tn (zI (zd g rfl (λhc=>?_) (λhc=>?_))))))
    ·have H:=H.1 hc
     refine zY (tn (z8 (ds:=[]) (N:=117) (σ:=Sl × Sl) (λs=>[(7,(Sl.v s.1)),(8,(Sl.v s.2)),(0,(Sl.v x0)),(5,(.pointer r_1)),(40,(Sl.v x1)),(41,(.int .i64 (x1.len:Int))),(42,(.int .i64 x42))]) (λs w=>Yq x42 Kl3 s.1 s.2 w) ?_ (λhj4=>?_)))
     ·rintro ⟨x7_1,x8_1⟩ w a H g
      try dsimp only at H g
      unfold Yq at H
      refine zE (g.p (zr g rfl rfl) λ_ g=>g.m rfl λ_ g=>?_)
      rw [hK_l3] at H
      exact zL (tn ⟨(x7_1,x8_1,(zC .i64 (x42+1))),g.k,H⟩)
     ·refine zX (zI (zE (g.o (zH g rfl rfl) H λx44 w a H g=>g.o (zO g rfl) H λx45 w a H g=>g.o (xY) H λx10 w a H g=>g.h (zT g rfl rfl) H λw a H g=>zL (tn (zI (zE (g.m rfl λ_ g=>g.o (zO g rfl) H λx47 w a H g=>g.c (zb g zTJ rfl rfl) H λe w H=>?_)))))))
      obtain ⟨r_3,rfl,H⟩:=H
      refine ⟨_,rfl,λ_ g=>(g.o (xY) H λx11 w a H g=>g.h (zT g rfl rfl) H λw a H g=>zL (tn (zI (zE (g.o (zP g rfl) H λx49 w a H g=>g.o (zO g rfl) H λx50 w a H g=>g.p (zFc g rfl rfl) λ_ g=>zL (tn (zd g rfl (λhc=>?_) (λhc=>?_))))))))⟩
      ·have H:=H.1 hc
       refine zE (g.m rfl λ_ g=>g.o (zO g rfl) H λx53 w a H g=>g.o (zO g rfl) H λx54 w a H g=>g.c (zb g zTj rfl rfl) H λe w H=>?_)
       obtain ⟨r_4,rfl,H⟩:=H
       exact ⟨_,rfl,λ_ g=>(g.s rfl λ_ g=>zL (bn (tn (hj4 (r_4,x8) _ _ H (g.k)))))⟩
      ·have H:=H.2 hc
       refine zI (zE (g.o (zP g rfl) H λx56 w a H g=>g.o (zO g rfl) H λx57 w a H g=>g.p (Zb g rfl rfl) λ_ g=>zL (tn (zd g rfl (λhc=>?_) (λhc=>?_)))))
       ·have H:=H.1 hc
        refine zI (zE (g.m rfl λ_ g=>g.purR (λw=>ZU g Tryz.underlying46 rfl) λ_ g=>g.m rfl λ_ g=>zL (tn (zX ?_))))
        obtain ⟨I_l5,μ_l5,h0,hb⟩:=H
        refine yE (ds:=[]) (N:=117) (σ:=Sl × Int) (λs=>[(8,(Sl.v s.1)),(61,(.int .i64 s.2)),(0,(Sl.v x0)),(5,(.pointer r_1)),(7,(Sl.v x7)),(10,(.pointer x10)),(40,(Sl.v x1)),(41,(.int .i64 (x1.len:Int))),(42,(.int .i64 x42)),(59,(Sl.v x7)),(60,(.int .i64 (x7.len:Int)))]) (λs w=>I_l5 s.1 s.2 w) (λs w=>μ_l5 s.1 s.2 w) (x8,0) h0 (g.k) ?_
        rintro ⟨x8_2,x61⟩ w a hI g
        try dsimp only at hI g
        obtain ⟨Kl5,hK_l5⟩:∃ K:Sl->Int->World->Prop,K=(λx8_2' x61' w'=>I_l5 x8_2' x61' w'/\μ_l5 x8_2' x61' w'<μ_l5 x8_2 x61 w):=⟨_,rfl⟩
        have H:zA8 x7 x42 Kl3 x10 x8_2 x61 w Kl5:=by rw [hK_l5];exact hb x8_2 x61 w hI
        clear hb h0 hI
        unfold zA8 at H
        refine zI (zE (g.p (yR g rfl rfl) λ_ g=>zL (tn (zI (zd g rfl (λhc=>?_) (λhc=>?_))))))
        ·have H:=H.1 hc
         refine zY (tn (z8 (ds:=[]) (N:=117) (σ:=Sl) (λs=>[(8,(Sl.v s)),(0,(Sl.v x0)),(5,(.pointer r_1)),(7,(Sl.v x7)),(10,(.pointer x10)),(40,(Sl.v x1)),(41,(.int .i64 (x1.len:Int))),(42,(.int .i64 x42)),(59,(Sl.v x7)),(60,(.int .i64 (x7.len:Int))),(61,(.int .i64 x61))]) (λs w=>ZP x61 Kl5 s w) ?_ (λhj6=>?_)))
         ·intro x8_3 w a H g
          try dsimp only at H g
          unfold ZP at H
          refine zE (g.p (zr g rfl rfl) λ_ g=>g.m rfl λ_ g=>?_)
          rw [hK_l5] at H
          exact zL (tn ⟨(x8_3,(zC .i64 (x61+1))),g.k,H⟩)
         ·refine zX (zI (zE (g.o (zH g rfl rfl) H λx63 w a H g=>g.o (zO g rfl) H λx64 w a H g=>g.o (xY) H λx13 w a H g=>g.h (zT g rfl rfl) H λw a H g=>zL (tn (zI (zE (g.o (zP g rfl) H λx65 w a H g=>g.o (zO g rfl) H λx66 w a H g=>g.o (zP g rfl) H λx67 w a H g=>g.o (zO g rfl) H λx68 w a H g=>g.p (Zb g rfl rfl) λ_ g=>zL (tn (zd g rfl (λhc=>?_) (λhc=>?_))))))))))
          ·have H:=H.1 hc
           exact zE (g.m rfl λ_ g=>g.o (zO g rfl) H λx71 w a H g=>g.o (yj g rfl) H λx72 w a H g=>g.o (zA6 g rfl) H λx73 w a H g=>g.s rfl λ_ g=>zL (bn (tn (hj6 x73 _ _ H (g.k)))))
          ·have H:=H.2 hc
           exact zY (bn (tn (hj6 x8_2 _ _ H (g.k))))
        ·have H:=H.2 hc
         exact z7 (te (te (be (bn (tn (hj4 (x7,x8_2) _ _ H (g.k)))))))
       ·have H:=H.2 hc
        exact zY (bn (tn (hj4 (x7,x8) _ _ H (g.k))))
    ·have H:=H.2 hc
     refine z7 (te (te (be (tn (zI (zE (g.o (yj g rfl) H λx76 w a H g=>g.m rfl λ_ g=>g.o (zA6 g rfl) H λx78 w a H g=>g.s rfl λ_ g=>zL (tn (zI (zI (zE (g.m rfl λ_ g=>g.purR (λw=>ZU g Tryz.underlying46 rfl) λ_ g=>g.m rfl λ_ g=>zL (tn (zX ?_))))))))))))))
     obtain ⟨I_l7,μ_l7,h0,hb⟩:=H
     refine yE (ds:=[]) (N:=117) (σ:=Sl × Int) (λs=>[(14,(Sl.v s.1)),(81,(.int .i64 s.2)),(5,(.pointer r_1)),(79,(Sl.v x8)),(80,(.int .i64 (x8.len:Int)))]) (λs w=>I_l7 s.1 s.2 w) (λs w=>μ_l7 s.1 s.2 w) (x78,0) h0 (g.k) ?_
     rintro ⟨x14,x81⟩ w a hI g
     try dsimp only at hI g
     obtain ⟨Kl7,hK_l7⟩:∃ K:Sl->Int->World->Prop,K=(λx14' x81' w'=>I_l7 x14' x81' w'/\μ_l7 x14' x81' w'<μ_l7 x14 x81 w):=⟨_,rfl⟩
     have H:Zt Ret r_1 x8 x14 x81 w Kl7:=by rw [hK_l7];exact hb x14 x81 w hI
     clear hb h0 hI
     unfold Zt at H
     refine zI (zE (g.p (yR g rfl rfl) λ_ g=>zL (tn (zI (zd g rfl (λhc=>?_) (λhc=>?_))))))
     ·have H:=H.1 hc
      refine zY (tn (zI (zX (zI (zE (g.o (zH g rfl rfl) H λx83 w a H g=>g.o (zO g rfl) H λx84 w a H g=>g.o (xY) H λx16 w a H g=>g.h (zT g rfl rfl) H λw a H g=>zL (tn (zI (zE (g.m rfl λ_ g=>g.o (zO g rfl) H λx87 w a H g=>g.c (zb g zTX rfl rfl) H λe w H=>?_))))))))))
      obtain ⟨r_5,r_6,rfl,H⟩:=H
      refine ⟨_,rfl,λ_ g=>(g.m rfl λ_ g=>g.p (zc g rfl rfl) λ_ g=>g.p (zc g rfl rfl) λ_ g=>g.s rfl λ_ g=>g.s rfl λ_ g=>zL (tn (zI (zI (zE (g.m rfl λ_ g=>g.p (zAJ g rfl) λ_ g=>zL (tn (zk g rfl (λhc=>?_) (λhc=>?_)))))))))⟩
      ·have H:=H.1 hc
       exact zI (zE (g.s rfl λ_ g=>zL (tn (zl (tr (br (tr (tr (br (tr (zw g rfl rfl ⟨_,rfl,H⟩)))))))))))
      ·have H:=H.2 hc
       refine zY (tn (zE (g.m rfl λ_ g=>g.s rfl λ_ g=>zL (bn (tn (zE (g.p (zr g rfl rfl) λ_ g=>g.m rfl λ_ g=>?_)))))))
       rw [hK_l7] at H
       exact zL (tn ⟨(r_5,(zC .i64 (x81+1))),g.k,H⟩)
     ·have H:=H.2 hc
      refine z7 (te (te (be (tn (zI (zE (g.m rfl λ_ g=>g.c (zb g zOe rfl rfl) H λe w H=>?_)))))))
      obtain ⟨r_7,r_8,rfl,H⟩:=H
      refine ⟨_,rfl,λ_ g=>(g.m rfl λ_ g=>g.p (zc g rfl rfl) λ_ g=>g.p (zc g rfl rfl) λ_ g=>g.s rfl λ_ g=>g.s rfl λ_ g=>zL (tn (zI (zI (zE (g.m rfl λ_ g=>g.p (zFc g rfl rfl) λ_ g=>zL (tn (zd g rfl (λhc=>?_) (λhc=>?_)))))))))⟩
      ·have H:=H.1 hc
       exact zI (zE (g.m rfl λ_ g=>g.p (Zb g rfl rfl) λ_ g=>g.s rfl λ_ g=>zL (tn (zl (tr (zw g rfl rfl ⟨_,rfl,H⟩))))))
      ·have H:=H.2 hc
       refine zY (tn (zI (zE (g.m rfl λ_ g=>g.m rfl λ_ g=>g.c (zb g zR2 rfl rfl) H λe w H=>?_))))
       obtain ⟨r_9,r_10,rfl,H⟩:=H
       refine ⟨_,rfl,λ_ g=>(g.m rfl λ_ g=>g.p (zc g rfl rfl) λ_ g=>g.p (zc g rfl rfl) λ_ g=>g.s rfl λ_ g=>g.s rfl λ_ g=>zL (tn (zI (zE (g.m rfl λ_ g=>g.p (Zb g rfl rfl) λ_ g=>g.m rfl λ_ g=>WL.join (ds:=[]) (N:=117) (σ:=Bool) (λs=>[(116,(.bool s))]) (λs w=>zAH Ret s w) 4 ?_ (λhr8=>?_))))))⟩
       ·intro x116 w a H g
        try dsimp only at H g
        unfold zAH at H
        exact g.s rfl λ_ g=>zL (tn (zl (zw g rfl rfl ⟨_,rfl,H⟩)))
       ·rcases Classical.em ((r_10=0)) with hbr8|hbr8
        ·have H:=H.1 hbr8
         have g:=g.b (b:=true) (t:=112) rfl (decide_eq_true hbr8)
         refine g.z (g.m rfl λ_ g=>g.z (g.m rfl λ_ g=>g.z (g.c (zb g zRz rfl rfl) H λe w H=>?_)))
         obtain ⟨r_11,rfl,H⟩:=H
         exact ⟨_,rfl,λ_ g=>(g.p (zx g rfl rfl) λ_ g=>hr8 r_11 _ _ H (g.k))⟩
        ·have H:=H.2 hbr8
         have g:=g.b (b:=false) (t:=112) rfl (decide_eq_false hbr8)
         exact g.d (λ_ g=>g.d (λ_ g=>g.d (λ_ g=>g.p (zy g rfl rfl) λ_ g=>hr8 false _ _ H (g.k))))
  ·rcases Classical.em ((r_2≠0)) with hbr1|hbr1
   ·have H:=H.1 hbr1
    have g:=g.b (b:=true) (t:=30) rfl (decide_eq_true hbr1)
    exact g.d (λ_ g=>g.d (λ_ g=>g.p (zx g rfl rfl) λ_ g=>hr1 true _ _ H (g.k)))
   ·have H:=H.2 hbr1
    have g:=g.b (b:=false) (t:=30) rfl (decide_eq_false hbr1)
    exact g.z (g.m rfl λ_ g=>g.z (g.o (zCz g rfl rfl) H λx32 w a H g=>g.p (zy g rfl rfl) λ_ g=>hr1 x32 _ _ H (g.k)))
def xJ (x16:Int) (Kl1:Sl->Int->World->Prop) (x0_2:Sl) (w:World):Prop:=
 Kl1 x0_2 (zC .i64 (x16+1)) w
def zA2 (Ret:Sl->Bool->World->Prop) (x0_1:Sl) (x16:Int) (Kl1:Sl->Int->World->Prop) (x49:Bool) (w:World):Prop:=
 (x49=true->(Ret x0_1 false w))/\(x49=false->(xJ x16 Kl1 x0_1 w))
def zBi (Ret:Sl->Bool->World->Prop) (x3:Option Addr) (x14:Sl) (x0_1:Sl) (x16:Int) (w:World) (Kl1:Sl->Int->World->Prop):Prop:=
 ((x16<(x14.len:Int))->(opE zA zB (zF 45 (Sl.v x14) (.int .i64 x16)) w (λx19 w=>opE zA za.v (zD 49 (.pointer x19)) w (λx20 w=>opE zA zB (zf 49 true (.tuple #[])) w (λx7 w=>opU zA (zK 49 (.pointer x7) (za.v x20)) w (λw=>opE zA zB (zN 56 (.pointer x3) 2) w (λx21 w=>opE zA Sl.v (zD 54 (.pointer x21)) w (λx22 w=>opE zA zB (zF 54 (Sl.v x22) (.int .i64 x16)) w (λx24 w=>opE zA zW.v (zD 51 (.pointer x24)) w (λx25 w=>opE zA zB (zf 51 true (.tuple #[])) w (λx8 w=>opU zA (zK 51 (.pointer x8) (zW.v x25)) w (λw=>opE zA zB (zN 51 (.pointer x8) 0) w (λx26 w=>opE zA (zV .i64) (zD 27 (.pointer x26)) w (λx27 w=>((x27≠0)->(xJ x16 Kl1 x0_1 w))/\(¬ (x27≠0)->(opE zA zB (zN 49 (.pointer x7) 0) w (λx29 w=>opE zA (zV .u8) (zD 47 (.pointer x29)) w (λx30 w=>((x30=2)->(opE zA zB (zN 49 (.pointer x7) 2) w (λx35 w=>opE zA zZ (zD 9 (.pointer x35)) w (λx36 w=>Cl zA 49 [(Sl.v x0_1),(.string x36)].toArray w (λe w=>∃ (r:ByteArray) (r_1:Bool),e=.returned (.tuple [(.string r),(.bool r_1)].toArray)/\(opE zA zB (zN 51 (.pointer x8) 2) w (λx41 w=>opE zA zZ (zD 9 (.pointer x41)) w (λx42 w=>((r≠x42)->(zA2 Ret x0_1 x16 Kl1 true w))/\(¬ (r≠x42)->(opE zA zB (zN 51 (.pointer x8) 3) w (λx46 w=>opE zA xv (zD 4 (.pointer x46)) w (λx47 w=>opE zA xv (do eqGuard .neq 4 (.tmp 45) (.tmp 47) (.bool r_1) (.bool x47);binOp .neq 4 (.bool r_1) (.bool x47)) w (λx48 w=>zA2 Ret x0_1 x16 Kl1 x48 w)))))))))))))/\(¬ (x30=2)->(((x30=3)->(opE zA zB (zN 49 (.pointer x7) 2) w (λx55 w=>opE zA zZ (zD 9 (.pointer x55)) w (λx56 w=>opE zA zB (zN 49 (.pointer x7) 3) w (λx57 w=>opE zA zZ (zD 9 (.pointer x57)) w (λx58 w=>Cl zA 50 [(Sl.v x0_1),(.string x56),(.string x58),(.int .i64 1073741824)].toArray w (λe w=>∃ (r_2:Sl) (r_3:Int),e=.returned (.tuple [(Sl.v r_2),(.int .i64 r_3)].toArray)/\(opE zA zB (zN 51 (.pointer x8) 4) w (λx63 w=>opE zA Sl.v (zD 22 (.pointer x63)) w (λx64 w=>Cl zA 18 [(Sl.v r_2),(Sl.v x64)].toArray w (λe w=>∃ (r_4:Bool),e=.returned (.bool r_4)/\(((!r_4)=true->(Ret x0_1 false w))/\((!r_4)=false->(xJ x16 Kl1 x0_1 w))))))))))))))/\(¬ (x30=3)->(((x30=4)->(opE zA zB (zN 49 (.pointer x7) 2) w (λx71 w=>opE zA zZ (zD 9 (.pointer x71)) w (λx72 w=>opE zA zB (zN 49 (.pointer x7) 4) w (λx73 w=>opE zA zZ (zD 9 (.pointer x73)) w (λx74 w=>opE zA zJ.v (yr 34 [(0,(.string x72)),(1,(.string x74))].toArray) w (λx75 w=>opE zA Sl.v (ze 30 1 [(0,(zJ.v x75))].toArray) w (λx76 w=>Cl zA 16 [(Sl.v x0_1),(Sl.v x76)].toArray w (λe w=>∃ (r_5:Sl),e=.returned (Sl.v r_5)/\(xJ x16 Kl1 r_5 w))))))))))/\(¬ (x30=4)->(((x30=5)->(opE zA zB (zN 49 (.pointer x7) 2) w (λx81 w=>opE zA zZ (zD 9 (.pointer x81)) w (λx82 w=>opE zA zJ.v (yr 34 [(0,(.string x82)),(2,(.bool true))].toArray) w (λx83 w=>opE zA Sl.v (ze 30 1 [(0,(zJ.v x83))].toArray) w (λx84 w=>Cl zA 16 [(Sl.v x0_1),(Sl.v x84)].toArray w (λe w=>∃ (r_6:Sl),e=.returned (Sl.v r_6)/\(xJ x16 Kl1 r_6 w))))))))/\(¬ (x30=5)->(xJ x16 Kl1 x0_1 w))))))))))))))))))))))))))/\(¬ (x16<(x14.len:Int))->(Ret x0_1 true w))
def zEG (x0:Sl) (x1:zm) (w:World) (Ret:Sl->Bool->World->Prop):Prop:=
 opE zA zB (Instr.box 56 (zm.v x1)) w (λx3 w=>opE zA zB (zN 56 (.pointer x3) 1) w (λx13 w=>opE zA Sl.v (zD 45 (.pointer x13)) w (λx14 w=>∃ (I:Sl->Int->World->Prop) (μ:Sl->Int->World->Nat),I x0 0 w/\∀ (x0_1:Sl) (x16:Int) w,I x0_1 x16 w->zBi Ret x3 x14 x0_1 x16 w (λx0_1' x16' w'=>I x0_1' x16' w'/\μ x0_1' x16' w'<μ x0_1 x16 w))))
set_option maxRecDepth 100000 in
theorem zIV (x0:Sl) (x1:zm) (w:World) (Ret:Sl->Bool->World->Prop) (H:zEG x0 x1 w Ret):Cl zA 21 [(Sl.v x0),(zm.v x1)].toArray w (λe w'=>∃ (r0:Sl) (r1:Bool),e=.returned (.tuple [(Sl.v r0),(.bool r1)].toArray)/\Ret r0 r1 w'):=by
 unfold zEG at H
 refine zp 88 (zipE 0 [(Sl.v x0),(zm.v x1)]) Tryz.func21 rfl rfl (by rfl) rfl ?_
 intro a g
 have g:Sat [] 88 [(0,(Sl.v x0)),(1,(zm.v x1))] a:=g
 refine zI (zE (g.o (zBc g rfl) H λx3 w a H g=>g.s rfl λ_ g=>g.s rfl λ_ g=>zL (tn (zI (zI (zE (g.o (zP g rfl) H λx13 w a H g=>g.o (zO g rfl) H λx14 w a H g=>g.purR (λw=>ZU g Tryz.underlying45 rfl) λ_ g=>g.m rfl λ_ g=>zL (tn (zX ?_)))))))))
 obtain ⟨I_l1,μ_l1,h0,hb⟩:=H
 refine yE (ds:=[]) (N:=88) (σ:=Sl × Int) (λs=>[(0,(Sl.v s.1)),(16,(.int .i64 s.2)),(3,(.pointer x3)),(14,(Sl.v x14)),(15,(.int .i64 (x14.len:Int)))]) (λs w=>I_l1 s.1 s.2 w) (λs w=>μ_l1 s.1 s.2 w) (x0,0) h0 (g.k) ?_
 rintro ⟨x0_1,x16⟩ w a hI g
 try dsimp only at hI g
 obtain ⟨Kl1,hK_l1⟩:∃ K:Sl->Int->World->Prop,K=(λx0_1' x16' w'=>I_l1 x0_1' x16' w'/\μ_l1 x0_1' x16' w'<μ_l1 x0_1 x16 w):=⟨_,rfl⟩
 have H:zBi Ret x3 x14 x0_1 x16 w Kl1:=by rw [hK_l1];exact hb x0_1 x16 w hI
 clear hb h0 hI
 unfold zBi at H
 refine zI (zE (g.p (yR g rfl rfl) λ_ g=>zL (tn (zI (zd g rfl (λhc=>?_) (λhc=>?_))))))
 ·have H:=H.1 hc
  refine zY (tn (z8 (ds:=[]) (N:=88) (σ:=Sl) (λs=>[(0,(Sl.v s)),(3,(.pointer x3)),(14,(Sl.v x14)),(15,(.int .i64 (x14.len:Int))),(16,(.int .i64 x16))]) (λs w=>xJ x16 Kl1 s w) ?_ (λhj2=>?_)))
  ·intro x0_2 w a H g
   try dsimp only at H g
   unfold xJ at H
   refine zE (g.p (zr g rfl rfl) λ_ g=>g.m rfl λ_ g=>?_)
   rw [hK_l1] at H
   exact zL (tn ⟨(x0_2,(zC .i64 (x16+1))),g.k,H⟩)
  ·refine zX (zI (zE (g.m rfl λ_ g=>g.o (zH g rfl rfl) H λx19 w a H g=>g.o (zO g rfl) H λx20 w a H g=>g.o (xY) H λx7 w a H g=>g.s rfl λ_ g=>g.h (zT g rfl rfl) H λw a H g=>zL (tn (zI (zE (g.o (zP g rfl) H λx21 w a H g=>g.o (zO g rfl) H λx22 w a H g=>g.m rfl λ_ g=>g.o (zH g rfl rfl) H λx24 w a H g=>g.o (zO g rfl) H λx25 w a H g=>g.o (xY) H λx8 w a H g=>g.h (zT g rfl rfl) H λw a H g=>zL (tn (zI (zI (zE (g.o (zP g rfl) H λx26 w a H g=>g.o (zO g rfl) H λx27 w a H g=>g.p (zFc g rfl rfl) λ_ g=>zL (tn (zd g rfl (λhc=>?_) (λhc=>?_)))))))))))))))
   ·have H:=H.1 hc
    exact z7 (te (be (tn (hj2 x0_1 _ _ H (g.k)))))
   ·have H:=H.2 hc
    refine zY (tn (zI (zE (g.o (zP g rfl) H λx29 w a H g=>g.o (zO g rfl) H λx30 w a H g=>zL (tn (zX (zI (zE (g.p (Zb g rfl rfl) λ_ g=>g.s rfl λ_ g=>zL (tn (zd g rfl (λhc=>?_) (λhc=>?_))))))))))))
    ·have H:=H.1 hc
     refine zI (zE (g.m rfl λ_ g=>g.o (zP g rfl) H λx35 w a H g=>g.o (zO g rfl) H λx36 w a H g=>g.c (zb g zTV rfl rfl) H λe w H=>?_))
     obtain ⟨r,r_1,rfl,H⟩:=H
     refine ⟨_,rfl,λ_ g=>(g.m rfl λ_ g=>g.p (zc g rfl rfl) λ_ g=>g.p (zc g rfl rfl) λ_ g=>g.s rfl λ_ g=>g.s rfl λ_ g=>zL (tn (zI (zE (g.m rfl λ_ g=>g.o (zP g rfl) H λx41 w a H g=>g.o (zO g rfl) H λx42 w a H g=>g.p (zNJ g rfl rfl) λ_ g=>g.m rfl λ_ g=>WL.join (ds:=[]) (N:=88) (σ:=Bool) (λs=>[(49,(.bool s)),(0,(Sl.v x0_1)),(3,(.pointer x3)),(14,(Sl.v x14)),(15,(.int .i64 (x14.len:Int))),(16,(.int .i64 x16))]) (λs w=>zA2 Ret x0_1 x16 Kl1 s w) 5 ?_ (λhr3=>?_))))))⟩
     ·intro x49 w a H g
      try dsimp only at H g
      unfold zA2 at H
      refine zL (tn (zk g rfl (λhc=>?_) (λhc=>?_)))
      ·have H:=H.1 hc
       exact zI (zE (g.m rfl λ_ g=>g.s rfl λ_ g=>g.s rfl λ_ g=>zL (tn (zl (br (br (tr (tr (br (tr (ZK g rfl rfl rfl ⟨_,_,rfl,H⟩)))))))))))
      ·have H:=H.2 hc
       exact zY (bn (bn (tn (hj2 x0_1 _ _ H (g.k)))))
     ·rcases Classical.em ((r≠x42)) with hbr3|hbr3
      ·have H:=H.1 hbr3
       have g:=g.b (b:=true) (t:=44) rfl (decide_eq_true hbr3)
       exact g.d (λ_ g=>g.d (λ_ g=>g.d (λ_ g=>g.d (λ_ g=>g.p (zx g rfl rfl) λ_ g=>hr3 true _ _ H (g.k)))))
      ·have H:=H.2 hbr3
       have g:=g.b (b:=false) (t:=44) rfl (decide_eq_false hbr3)
       exact g.z (g.m rfl λ_ g=>g.z (g.o (zP g rfl) H λx46 w a H g=>g.z (g.o (zO g rfl) H λx47 w a H g=>g.z (g.o (zCz g rfl rfl) H λx48 w a H g=>g.p (zy g rfl rfl) λ_ g=>hr3 x48 _ _ H (g.k)))))
    ·have H:=H.2 hc
     refine zI (zE (g.p (Zb g rfl rfl) λ_ g=>g.s rfl λ_ g=>zL (tn (zd g rfl (λhc=>?_) (λhc=>?_)))))
     ·have H:=H.1 hc
      refine zI (zE (g.m rfl λ_ g=>g.o (zP g rfl) H λx55 w a H g=>g.o (zO g rfl) H λx56 w a H g=>g.o (zP g rfl) H λx57 w a H g=>g.o (zO g rfl) H λx58 w a H g=>g.c (zb g zTf rfl rfl) H λe w H=>?_))
      obtain ⟨r_2,r_3,rfl,H⟩:=H
      refine ⟨_,rfl,λ_ g=>(g.m rfl λ_ g=>g.p (zc g rfl rfl) λ_ g=>g.p (zc g rfl rfl) λ_ g=>g.s rfl λ_ g=>g.s rfl λ_ g=>zL (tn (zI (zE (g.m rfl λ_ g=>g.o (zP g rfl) H λx63 w a H g=>g.o (zO g rfl) H λx64 w a H g=>g.c (zb g zRz rfl rfl) H λe w H=>?_)))))⟩
      obtain ⟨r_4,rfl,H⟩:=H
      refine ⟨_,rfl,λ_ g=>(g.p (zAJ g rfl) λ_ g=>zL (tn (zk g rfl (λhc=>?_) (λhc=>?_))))⟩
      ·have H:=H.1 hc
       exact zI (zE (g.m rfl λ_ g=>g.s rfl λ_ g=>g.s rfl λ_ g=>zL (tn (zl (br (br (tr (tr (br (tr (ZK g rfl rfl rfl ⟨_,_,rfl,H⟩)))))))))))
      ·have H:=H.2 hc
       exact zY (bn (bn (tn (hj2 x0_1 _ _ H (g.k)))))
     ·have H:=H.2 hc
      refine zI (zE (g.p (Zb g rfl rfl) λ_ g=>g.s rfl λ_ g=>zL (tn (zd g rfl (λhc=>?_) (λhc=>?_)))))
      ·have H:=H.1 hc
       refine zE (g.m rfl λ_ g=>g.o (zP g rfl) H λx71 w a H g=>g.o (zO g rfl) H λx72 w a H g=>g.o (zP g rfl) H λx73 w a H g=>g.o (zO g rfl) H λx74 w a H g=>g.o (Z5 g rfl) H λx75 w a H g=>g.o (yj g rfl) H λx76 w a H g=>g.c (zb g zR9 rfl rfl) H λe w H=>?_)
       obtain ⟨r_5,rfl,H⟩:=H
       exact ⟨_,rfl,λ_ g=>(g.s rfl λ_ g=>zL (bn (bn (tn (hj2 r_5 _ _ H (g.k))))))⟩
      ·have H:=H.2 hc
       refine zI (zE (g.p (Zb g rfl rfl) λ_ g=>g.s rfl λ_ g=>zL (tn (zd g rfl (λhc=>?_) (λhc=>?_)))))
       ·have H:=H.1 hc
        refine zE (g.m rfl λ_ g=>g.o (zP g rfl) H λx81 w a H g=>g.o (zO g rfl) H λx82 w a H g=>g.o (Z5 g rfl) H λx83 w a H g=>g.o (yj g rfl) H λx84 w a H g=>g.c (zb g zR9 rfl rfl) H λe w H=>?_)
        obtain ⟨r_6,rfl,H⟩:=H
        exact ⟨_,rfl,λ_ g=>(g.s rfl λ_ g=>zL (bn (bn (tn (hj2 r_6 _ _ H (g.k))))))⟩
       ·have H:=H.2 hc
        exact zY (bn (bn (tn (hj2 x0_1 _ _ H (g.k)))))
 ·have H:=H.2 hc
  exact z7 (te (te (be (tn (zI (zE (g.m rfl λ_ g=>g.s rfl λ_ g=>g.s rfl λ_ g=>zL (tn (zl (ZK g rfl rfl rfl ⟨_,_,rfl,H⟩))))))))))
end Go.Proofs.YtealcoghiaeiiaaGreat.VG
set_option linter.unusedVariables false
set_option linter.unusedSimpArgs false
namespace Go.Proofs.YtealcoghiaeiiaaGreat.VG
open Go.VB Go.Proofs Go.RowKit
abbrev zB3 (Z:List za) (A:List (zW × Ans)):List Op1:=Z.zip (A.map (·.2))
theorem zPi {Z:List za} {A:List (zW × Ans)} (h:Z.length=A.length):(zB3 Z A).length=Z.length:=by unfold zB3;rw [List.length_zip,List.length_map];omega
theorem zPX {Z:List za} {A:List (zW × Ans)} {n:Nat} {x:za} {p:zW × Ans} (hx:Z[n]?=some x) (hp:A[n]?=some p):(zB3 Z A)[n]?=some (x,p.2):=by
 unfold zB3
 rw [List.getElem?_zip_eq_some]
 exact ⟨hx,by rw [List.getElem?_map,hp];rfl⟩
theorem zNw {Z:List za} {A:List (zW × Ans)} (h:Z.length=A.length) (x:za) (p:zW × Ans):zB3 (Z++[x]) (A++[p])=zB3 Z A++[(x,p.2)]:=by
 unfold zB3
 rw [List.map_append,List.zip_append (by rw [List.length_map];exact h)];rfl
theorem zSD (a b:Bool) {w:World} {o1 o2:Operand} {k:Bool->World->Prop} (H:k (decide (a≠b)) w):opE zA xv (do eqGuard .neq zOg o1 o2 (.bool a) (.bool b);binOp .neq zOg (.bool a) (.bool b)) w k:=
 ⟨decide (a≠b),w,by cases a<;>cases b<;>kernel_rfl,H⟩
theorem zPS {base:Nat} {w:World} {x0:Sl} {x1:Tld} {l:List Pai} {Z:List za} {A:List (zW × Ans)} {f g:ByteArray->Option ByteArray} (h0:xf base w x0 l) (hbs:base<=w.heap.size) (hl:zAK f l) (hll:l.length<=4096) (hS:Rd za.cells 5 w x1.steps Z) (hA:Rd cAns 7 w x1.seen A)
  (hF:∀ p∈A,zJW w p.1 p.2) (hlen:Z.length=A.length) (hN:Z.length<maxN) (hT:zF6 g (zB3 Z A)) (hag:∀ x∈rsOf (zB3 Z A),∀ k,Qr x k=true->f k=g k) {k:Sl->Bool->World->Prop}
  (H:∀ r w' m,xf base w' r m->zAK (ovl (wrOf (zB3 Z A)) f) m->Bel w w'->k r true w'):
  Cl zA zIN [Sl.v x0,zm.v x1].toArray w (λe w'=>∃ (r0:Sl) (r1:Bool),e=.returned (.tuple [Sl.v r0,.bool r1].toArray)/\k r0 r1 w'):=by
 refine zIV x0 x1 w k ?_
 unfold zEG
 have hol:=zPi hlen
 have hSl:=hS.len
 refine zAo (cs:=x1.cells) rfl λT W1 b1 hT1 hT0=>?_
 refine yA zCE zGH hT1.at x1.steps rfl ?_
 refine ⟨λr i W=>∃ (n:Nat) (m:List Pai),i=(n:Int)/\n<=Z.length/\Bel W1 W/\xf base W r m/\zAK (ovl (wrOf ((zB3 Z A).take n)) f) m,λ_ i _=>(x1.steps.len - i).toNat,
  ⟨0,l,rfl,by omega,Bel.refl _,h0.bel b1,by rw [List.take_zero];exact hl⟩,?_⟩
 rintro r i W ⟨n,m,rfl,hn,hb,hr,hm⟩
 have hbW:=b1.trans hb
 have hml:=zRM (hT.take n) hl hm
 unfold zBi
 refine ⟨λhc=>?_,λhc=>?_⟩
 ·obtain ⟨x,hx⟩:=getE (l:=Z) (n:=n) (by omega)
  obtain ⟨p,hp⟩:=getE (l:=A) (n:=n) (by omega)
  have hop:=zPX hx hp
  have htk:=zA0 hop
  have hmem:(x,p.2)∈zB3 Z A:=List.mem_of_getElem? hop
  have hG:=(hT n _ hop).1
  have hw1:wrOf ((zB3 Z A).take (n+1))=zGU (wrOf ((zB3 Z A).take n)) (x,p.2):=by rw [htk,zGr]
  refine zDA (hS.bel hbW) zGI zHe (by omega) (x:=x) (by simpa using hx) λad hAd=>?_
  refine Za zBq x rfl hAd rfl ?_
  refine zBa zIj rfl zBq (cs:=x.cells) rfl rfl rfl λX W2 b2 hX hX0=>?_
  refine yA zCQ zFY (hT1.bel (hb.trans b2)).at x1.seen rfl ?_
  refine zDA (hA.bel (hbW.trans b2)) zG4 zJu (by omega) (x:=p) (by simpa using hp) λad2 hAd2=>?_
  refine Za Zk p.1 rfl hAd2 rfl ?_
  refine zBa zEl rfl Zk (cs:=p.1.cells) rfl rfl rfl λY W3 b3 hY hY0=>?_
  replace hX:=hX.bel b3
  have b13:=(hb.trans b2).trans b3
  have bW3:=b2.trans b3
  obtain ⟨a1,a2,a3,a4,a5,a6,a7⟩:=(hF p (List.mem_of_getElem? hp)).bel (b1.trans b13)
  have J:∀ r' W' m',Bel W1 W'->xf base W' r' m'->zAK (ovl (zGU (wrOf ((zB3 Z A).take n)) (x,p.2)) f) m'->xJ (n:Int) (λa b w'=>(∃ (n:Nat) (m:List Pai),b=(n:Int)/\n<=Z.length/\Bel W1 w'/\xf base w' a m/\zAK (ovl (wrOf ((zB3 Z A).take n)) f) m)/\(x1.steps.len - b).toNat<(x1.steps.len - (n:Int)).toNat) r' W':=by
   intro r' W' m' hb' hr' hm'
   unfold xJ
   unfold maxN at hN
   rw [wr64 (by omega) (by omega)]
   exact ⟨⟨n+1,m',by omega,by omega,hb',hr',by rw [hw1];exact hm'⟩,by omega⟩
  have J0:∀ W',Bel W3 W'->zGU (wrOf ((zB3 Z A).take n)) (x,p.2)=wrOf ((zB3 Z A).take n)->xJ (n:Int) (λa b w'=>(∃ (n:Nat) (m:List Pai),b=(n:Int)/\n<=Z.length/\Bel W1 w'/\xf base w' a m/\zAK (ovl (wrOf ((zB3 Z A).take n)) f) m)/\(x1.steps.len - b).toNat<(x1.steps.len - (n:Int)).toNat) r W':=λW' b' ht=>
   J r W' m (b13.trans b') (hr.bel (bW3.trans b')) (by rw [ht];exact hm)
  refine yA ZD zBk hY.at p.1.Why rfl ⟨λh1=>?_,λh1=>?_⟩
  ·exact J0 W3 (Bel.refl _) (zMc (.inl (by show p.2.why≠0;rw [← a1];exact h1)) _)
  have hw0:p.2.why=0:=by rw [← a1];exact Classical.not_not.1 h1
  refine yA ZL zBN hX.at x.Kind rfl ⟨λk2=>?_,λk2=>?_⟩
  ·refine yA Z9 zh hX.at x.Key rfl ?_
   have hsame:ovl (wrOf ((zB3 Z A).take n)) f x.Key=ovl (wrOf ((zB3 Z A).take n)) g x.Key:=by
    have h2:zHP x.Key∈rsOf (zB3 Z A):=by
     unfold rsOf;rw [List.mem_flatMap]
     exact ⟨_,hmem,by unfold zJ9;simp [hw0,k2]⟩
    have h3:=hag _ h2 x.Key (zPa _)
    unfold ovl
    cases wrOf ((zB3 Z A).take n) x.Key with
    |some y=>rfl
    |none=>exact h3
   obtain ⟨g1,g2⟩:=hG.get hw0 k2
   refine zRb (xf.rd (hr.bel bW3)) hm x.Key λW4 b4=>?_
   rw [hsame,← g1,← g2]
   refine yA zGY zh (hY.bel b4).at p.1.Val rfl ⟨λh2=>absurd a3.symm h2,λ_=>?_⟩
   refine yA zGk zDR (hY.bel b4).at p.1.Is rfl ?_
   refine zSD _ _ ?_
   unfold zA2
   refine ⟨λh2=>absurd a4.symm (of_decide_eq_true h2),λ_=>J0 W4 b4 ?_⟩
   unfold zGU;simp [k2]
  refine ⟨λk3=>?_,λk3=>?_⟩
  ·refine yA Z9 zh hX.at x.Key rfl ?_
   refine yA zHK zh hX.at x.To rfl ?_
   refine zQv (xf.rd (hr.bel bW3)) x.Key x.To 1073741824 (by omega) (by omega) λr2 W4 hO4 b4=>?_
   have hsame:cut (Y3 x.Key x.To) (ovl (wrOf ((zB3 Z A).take n)) f)=cut (Y3 x.Key x.To) (ovl (wrOf ((zB3 Z A).take n)) g):=by
    refine zPT λkk hk=>?_
    refine hag (Y3 x.Key x.To) ?_ kk hk
    unfold rsOf;rw [List.mem_flatMap]
    exact ⟨_,hmem,by unfold zJ9;simp [hw0,k3]⟩
   have h2:=zOV hm (Y3 x.Key x.To)
   rw [hsame] at h2
   have h3:=zJc h2
   have h4:=hG.scan hw0 k3
   rw [h3] at h4
   refine yA zFq zEV (hY.bel b4).at p.1.Pairs rfl ?_
   refine zNn (xf.rd hO4) (a5.bel b4) λc W5 hc5 b5=>?_
   rw [h4] at hc5
   have hct:c=true:=hc5.2 rfl
   subst hct
   refine ⟨λh=>(nomatch h),λ_=>J0 W5 (b4.trans b5) ?_⟩
   unfold zGU;simp [k3]
  refine ⟨λk4=>?_,λk4=>?_⟩
  ·refine yA Z9 zh hX.at x.Key rfl ?_
   refine yA zG8 zh hX.at x.Val rfl ?_
   let y:Wri:=⟨x.Key,x.Val,false⟩
   refine ⟨y,W3,by kernel_rfl,?_⟩
   refine ⟨_,_,zGb y W3,?_⟩
   have hO:=OwnS.lit1 (c:=zJ.cells) (n:=3) (e:=ZB) (base:=0) (λ_=>rfl) (Nat.zero_le W3.heap.size) y
   have b4:=Bel.alloc W3 (.cells y.cells.toArray ZB)
   refine zOi (xf.rd ((hr.bel bW3).bel b4)) (OwnS.rd hO (λ_=>rfl)) (by simp;omega) λr' W5 hO5 b5=>?_
   refine J r' W5 _ (b13.trans (b4.trans b5)) (hO5.low (by have:=b4.le;have:=(hbW.trans bW3).le;omega)) ?_
   have h2:zGU (wrOf ((zB3 Z A).take n)) (x,p.2)=upd (wrOf ((zB3 Z A).take n)) y.Key y:=by unfold zGU;simp [hw0,k4,y]
   rw [h2,zOm]
   exact zJn hm y
  refine ⟨λk5=>?_,λk5=>?_⟩
  ·refine yA Z9 zh hX.at x.Key rfl ?_
   let y:Wri:=⟨x.Key,noB,true⟩
   refine ⟨y,W3,by kernel_rfl,?_⟩
   refine ⟨_,_,zGb y W3,?_⟩
   have hO:=OwnS.lit1 (c:=zJ.cells) (n:=3) (e:=ZB) (base:=0) (λ_=>rfl) (Nat.zero_le W3.heap.size) y
   have b4:=Bel.alloc W3 (.cells y.cells.toArray ZB)
   refine zOi (xf.rd ((hr.bel bW3).bel b4)) (OwnS.rd hO (λ_=>rfl)) (by simp;omega) λr' W5 hO5 b5=>?_
   refine J r' W5 _ (b13.trans (b4.trans b5)) (hO5.low (by have:=b4.le;have:=(hbW.trans bW3).le;omega)) ?_
   have h2:zGU (wrOf ((zB3 Z A).take n)) (x,p.2)=upd (wrOf ((zB3 Z A).take n)) y.Key y:=by unfold zGU;simp [hw0,k5,y]
   rw [h2,zOm]
   exact zJn hm y
  ·exact J0 W3 (Bel.refl _) (by unfold zGU;rw [if_pos hw0,if_neg k4,if_neg k5])
 ·obtain rfl:n=Z.length:=by omega
  rw [List.take_of_length_le (by omega)] at hm
  exact H r W m hr hm hbW
end Go.Proofs.YtealcoghiaeiiaaGreat.VG
set_option linter.unusedVariables false
set_option linter.unusedSimpArgs false
namespace Go.Proofs.YtealcoghiaeiiaaGreat.VG
open Go.VB Go.Proofs Go.RowKit
abbrev Vf:=ByteArray->Option ByteArray
structure Told (s:St) (es:List Tld) (Ss:List (List za)) (As:List (List (zW × Ans))) (Sd:List (List za)) (Ad:List (List (zW × Ans))) (D:List (List Op1)) (f0:Vf) (j:Nat):Prop where
 nd:∀ (i i':Nat) (e e':Tld),es[i]?=some e->es[i']?=some e'->e.tx=e'.tx->i=i'
 ln:es.length<=j
 nt:∀ (i:Nat) (e:Tld) Z A,es[i]?=some e->Ss[i]?=some Z->As[i]?=some A->Z.length=A.length/\Z.length<=j/\zHG s e.tx (zB3 Z A)
 fr:∀ n:Int,(∀ e∈es,e.tx≠n)->zO9 s n
 dl:D.length=Sd.length
 dj:Sd.length<=j
 dn:∀ (i:Nat) M N,Sd[i]?=some M->Ad[i]?=some N->M.length=N.length/\M.length<=j/\D[i]?=some (zB3 M N)
 ch:zJY f0 D λk=>val s.l k s.now
section
variable {s s':St} {es:List Tld} {Ss Sd:List (List za)} {As Ad:List (List (zW × Ans))} {D:List (List Op1)} {f0:Vf} {j:Nat} {x:za} {a:Ans}
theorem zMu {α:Type} {l:List α} {x:α} (h:x∈l):∃ i:Nat,l[i]?=some x:=List.mem_iff_getElem?.1 h
theorem Told.noteA (h:Told s es Ss As Sd Ad D f0 j) (hI:Inv s) (hn:s.now+1<=maxT) (e:Eff s x s' a) (hk:x.Kind≠6) {i:Nat} {t t':Tld} {Z A} {p:zW × Ans} (hl1:es.length=Ss.length) (hl2:es.length=As.length)
  (ht:es[i]?=some t) (htx:t.tx=x.Tx) (ht':t'.tx=t.tx) (hZ:Ss[i]?=some Z) (hA:As[i]?=some A) (hp:p.2=a):
  Told s' (es.set i t') (Ss.set i (Z++[x])) (As.set i (A++[p])) Sd Ad D f0 (j+1):=by
 obtain ⟨q1,q2,q3⟩:=h.nt i t Z A ht hZ hA
 have hil:=(List.getElem?_eq_some_iff.1 ht).1
 have geti:∀ (m:Nat) (u:Tld),(es.set i t')[m]?=some u->∃ u0,es[m]?=some u0/\u.tx=u0.tx:=λm u hu=>by
  by_cases hm:m=i
  ·subst hm;rw [List.getElem?_set_self hil] at hu;cases hu;exact ⟨t,ht,ht'⟩
  ·rw [List.getElem?_set_ne (Ne.symm hm)] at hu;exact ⟨u,hu,rfl⟩
 refine ⟨λm m' u u' hu hu' he=>?_,by rw [List.length_set];have:=h.ln;omega,λm u Y B hu hY hB=>?_,λn hno=>?_,h.dl,by have:=h.dj;omega,λm M N hM hN=>?_,?_⟩
 ·obtain ⟨v,hv,hv2⟩:=geti m u hu
  obtain ⟨v',hv',hv2'⟩:=geti m' u' hu'
  exact h.nd m m' v v' hv hv' (by rw [← hv2,← hv2'];exact he)
 ·by_cases hm:m=i
  ·subst hm
   rw [List.getElem?_set_self hil] at hu
   rw [List.getElem?_set_self (by omega)] at hY hB
   cases hu;cases hY;cases hB
   refine ⟨by simp [q1],by simp;omega,?_⟩
   rw [zNw q1,ht',htx,hp]
   exact zMB hI hn e hk (by rw [← htx];exact q3)
  ·rw [List.getElem?_set_ne (Ne.symm hm)] at hu hY hB
   obtain ⟨r1,r2,r3⟩:=h.nt m u Y B hu hY hB
   refine ⟨r1,by omega,zFh hI hn e (.inl λe1=>?_) r3⟩
   exact hm (h.nd m i u t hu ht (by rw [htx];exact e1.symm))
 ·have hne:x.Tx≠n:=λe1=>hno t' (List.mem_of_getElem? (List.getElem?_set_self hil)) (by rw [ht',htx];exact e1)
  refine (zFh hI hn e (.inl hne) (h.fr n λu hu e1=>?_).noted).fresh
  obtain ⟨m,hm⟩:=zMu hu
  by_cases hmi:m=i
  ·subst hmi;rw [ht] at hm;cases hm;exact hne (htx ▸ e1)
  ·exact hno u (List.mem_of_getElem? (i:=m) (by rw [List.getElem?_set_ne (Ne.symm hmi)];exact hm)) e1
 ·obtain ⟨r1,r2,r3⟩:=h.dn m M N hM hN
  exact ⟨r1,by omega,r3⟩
 ·rw [zK9 hI hn e (.inl hk)];exact h.ch
theorem Told.noteB (h:Told s es Ss As Sd Ad D f0 j) (hI:Inv s) (hn:s.now+1<=maxT) (e:Eff s x s' a) (hk:x.Kind≠6) {t':Tld} {p:zW × Ans} (hl1:es.length=Ss.length) (hl2:es.length=As.length)
  (hno:∀ t∈es,t.tx≠x.Tx) (ht':t'.tx=x.Tx) (hp:p.2=a):
  Told s' (es++[t']) (Ss++[[x]]) (As++[[p]]) Sd Ad D f0 (j+1):=by
 have split:∀ (m:Nat) (u:Tld),(es++[t'])[m]?=some u->m<es.length/\es[m]?=some u∨m=es.length/\u=t':=λm u hu=>by
  rcases Nat.lt_or_ge m es.length with h1|h1
  ·rw [List.getElem?_append_left h1] at hu;exact .inl ⟨h1,hu⟩
  ·have hl:=(List.getElem?_eq_some_iff.1 hu).1
   rw [zg,List.length_singleton] at hl
   obtain rfl:m=es.length:=by omega
   rw [List.getElem?_append_right (zU _),Nat.sub_self] at hu
   simp at hu;exact .inr ⟨rfl,hu.symm⟩
 refine ⟨λm m' u u' hu hu' he=>?_,by rw [zg,List.length_singleton];have:=h.ln;omega,λm u Y B hu hY hB=>?_,λn hno2=>?_,h.dl,by have:=h.dj;omega,λm M N hM hN=>?_,?_⟩
 ·rcases split m u hu with ⟨h1,h2⟩|⟨h1,h2⟩<;>rcases split m' u' hu' with ⟨h3,h4⟩|⟨h3,h4⟩
  ·exact h.nd m m' u u' h2 h4 he
  ·subst h4;exact absurd (he.trans ht') (hno u (List.mem_of_getElem? h2))
  ·subst h2;exact absurd (he.symm.trans ht') (hno u' (List.mem_of_getElem? h4))
  ·omega
 ·rcases split m u hu with ⟨h1,h2⟩|⟨h1,h2⟩
  ·rw [List.getElem?_append_left (by omega)] at hY hB
   obtain ⟨r1,r2,r3⟩:=h.nt m u Y B h2 hY hB
   exact ⟨r1,by omega,zFh hI hn e (.inl λe1=>hno u (List.mem_of_getElem? h2) e1.symm) r3⟩
  ·subst h1;subst h2
   rw [hl1,List.getElem?_append_right (zU _),Nat.sub_self] at hY
   rw [hl2,List.getElem?_append_right (zU _),Nat.sub_self] at hB
   simp at hY hB;subst hY;subst hB
   refine ⟨rfl,by simp,?_⟩
   rw [ht']
   have:=zMB hI hn e hk (h.fr x.Tx hno).noted
   rw [← hp] at this;exact this
 ·have hne:x.Tx≠n:=λe1=>hno2 t' (by simp) (by rw [ht'];exact e1)
  exact (zFh hI hn e (.inl hne) (h.fr n λu hu=>hno2 u (by simp [hu])).noted).fresh
 ·obtain ⟨r1,r2,r3⟩:=h.dn m M N hM hN
  exact ⟨r1,by omega,r3⟩
 ·rw [zK9 hI hn e (.inl hk)];exact h.ch
theorem Told.comm (h:Told s es Ss As Sd Ad D f0 j) (hI:Inv s) (hn:s.now+1<=maxT) (e:Eff s x s' a) (hk:x.Kind=6) {Sd' Ad'} {D':List (List Op1)} (hl:D'.length=Sd'.length) (hj:Sd'.length<=j+1)
  (hd:∀ (i:Nat) M N,Sd'[i]?=some M->Ad'[i]?=some N->M.length=N.length/\M.length<=j+1/\D'[i]?=some (zB3 M N)) (hc:zJY f0 D' λk=>val s'.l k s'.now):Told s' es Ss As Sd' Ad' D' f0 (j+1):=
 ⟨h.nd,by have:=h.ln;omega,λm u Y B hu hY hB=>by
  obtain ⟨r1,r2,r3⟩:=h.nt m u Y B hu hY hB
  exact ⟨r1,by omega,zJy hI hn e hk r3⟩,λn hno=>(zJy hI hn e hk (h.fr n hno).noted).fresh,hl,hj,hd,hc⟩
theorem Told.same (h:Told s es Ss As Sd Ad D f0 j) (hI:Inv s) (hn:s.now+1<=maxT) (e:Eff s x s' a) (hk:x.Kind=6) (hw:a.why≠0∨∀ t∈es,t.tx≠x.Tx):Told s' es Ss As Sd Ad D f0 (j+1):=by
 refine h.comm hI hn e hk h.dl (by have:=h.dj;omega) (λm M N hM hN=>?_) ?_
 ·obtain ⟨r1,r2,r3⟩:=h.dn m M N hM hN
  exact ⟨r1,by omega,r3⟩
 ·by_cases h0:a.why=0
  ·have hno:=hw.resolve_left λh1=>h1 h0
   rw [(zKE hI hn e hk h0 h.ch (h.fr x.Tx hno).noted).2 rfl];exact h.ch
  ·rw [zK9 hI hn e (.inr h0)];exact h.ch
theorem Told.done (h:Told s es Ss As Sd Ad D f0 j) (hI:Inv s) (hn:s.now+1<=maxT) (e:Eff s x s' a) (hk:x.Kind=6) (hw:a.why=0) {i:Nat} {t:Tld} {Z A} (ht:es[i]?=some t) (htx:t.tx=x.Tx) (hZ:Ss[i]?=some Z) (hA:As[i]?=some A) (hdl:Sd.length=Ad.length):
  Told s' es Ss As (Sd++[Z]) (Ad++[A]) (D++[zB3 Z A]) f0 (j+1):=by
 obtain ⟨q1,q2,q3⟩:=h.nt i t Z A ht hZ hA
 have hD:=h.dl
 refine h.comm hI hn e hk (by simp [hD]) (by have:=h.dj;simp;omega) (λm M N hM hN=>?_) (zKE hI hn e hk hw h.ch (by rw [← htx];exact q3)).1
 rcases Nat.lt_or_ge m Sd.length with h1|h1
 ·rw [List.getElem?_append_left h1] at hM
  rw [List.getElem?_append_left (by omega)] at hN
  obtain ⟨r1,r2,r3⟩:=h.dn m M N hM hN
  exact ⟨r1,by omega,by rw [List.getElem?_append_left (by omega)];exact r3⟩
 ·have hl:=(List.getElem?_eq_some_iff.1 hM).1
  rw [zg,List.length_singleton] at hl
  obtain rfl:m=Sd.length:=by omega
  rw [List.getElem?_append_right (zU _),Nat.sub_self] at hM
  rw [hdl,List.getElem?_append_right (zU _),Nat.sub_self] at hN
  simp at hM hN;subst hM;subst hN
  refine ⟨q1,by omega,?_⟩
  rw [← hD,List.getElem?_append_right (zU _),Nat.sub_self];rfl
end
noncomputable def zI6 (f0:Vf) (D:List (List Op1)):Vf:=D.foldl (λf ops=>ovl (wrOf ops) f) f0
theorem zQb {f0:Vf} {D:List (List Op1)} {f:Vf} (h:zJY f0 D f):f=zI6 f0 D/\∀ (m:Nat) (ops:List Op1),D[m]?=some ops->∃ g,zF6 g ops/\(∀ x∈rsOf ops,∀ k,Qr x k=true->zI6 f0 (D.take m) k=g k)/\∃ cur,zAK (zI6 f0 (D.take m)) cur/\cur.length<=4096:=by
 induction h with
 |nil=>exact ⟨rfl,λm ops h=>by simp at h⟩
 |snoc hC h1 h2 h3 ih=>
  rename_i D f ops g
  obtain ⟨i1,i2⟩:=ih
  refine ⟨by unfold zI6;rw [List.foldl_append,i1];rfl,λm o ho=>?_⟩
  rcases Nat.lt_or_ge m D.length with hm|hm
  ·rw [List.getElem?_append_left hm] at ho
   rw [List.take_append_of_le_length (by omega)]
   exact i2 m o ho
  ·have hl:=(List.getElem?_eq_some_iff.1 ho).1
   rw [zg,List.length_singleton] at hl
   obtain rfl:m=D.length:=by omega
   rw [List.getElem?_append_right (zU _),Nat.sub_self] at ho
   simp at ho;subst ho
   rw [List.take_append_of_le_length (zU _),List.take_length,← i1]
   exact ⟨g,h1,h2,h3⟩
theorem zNg {f0:Vf} {D:List (List Op1)} {m:Nat} {ops:List Op1} (h:D[m]?=some ops):zI6 f0 (D.take (m+1))=ovl (wrOf ops) (zI6 f0 (D.take m)):=by
 rw [zA0 h];unfold zI6;rw [List.foldl_append];rfl
end Go.Proofs.YtealcoghiaeiiaaGreat.VG
set_option linter.unusedVariables false
set_option linter.unusedSimpArgs false
namespace Go.Proofs.YtealcoghiaeiiaaGreat.VG
open Go.VB Go.Proofs Go.RowKit
theorem zPl {s:St} (hI:Inv (zFg s)) (hl:s.tx (s.given+1)=none) {cur:List Pai} (hc:zAK (λk=>val s.l k s.now) cur):(zGm (zFg s) (s.given+1) noB noB).2.why=0/\(zGm (zFg s) (s.given+1) noB noB).2.pairs=cur:=by
 have ht:(zFg s).tx (s.given+1)=some (zGa s):=by show upd s.tx _ _ _=_;rw [Ql]
 unfold zGm
 rw [zBu ht]
 unfold zL4
 rw [if_neg (by simp [zGa])]
 refine ⟨rfl,?_⟩
 show zHq _=_
 refine zJc ?_
 rw [zOj]
 exact hc
theorem zOH (s:St):(zCR s).2.why=0/\zCR s=(zFg s,{ans0 with tx:=s.given+1})/\cnt s.tx<16∨(zCR s).2.why=3:=by
 unfold zCR
 split
 ·exact .inr rfl
 ·exact .inl ⟨rfl,rfl,by omega⟩
def SerI (w:World) (b:Nat) (f0:Vf) (j:Nat) (x7 x8:Sl) (W:World):Prop:=
 ∃ (ρ:Own) (s:St) (σ:Rol) (es:List Tld) (Ss:List (List za)) (As:List (List (zW × Ans))) (ds:List Tld) (Sd:List (List za)) (Ad:List (List (zW × Ans))) (D:List (List Op1)),
  Mgr ρ W b s/\Inv s/\s.now<=1+j/\s.given<=j/\Bel w W/\(∀ k,k<w.heap.size->ρ k=none)/\(∀ k,k<w.heap.size->σ k=none)/\TAll σ ρ W x7 es Ss As x8 ds Sd Ad/\Told s es Ss As Sd Ad D f0 j
theorem zN8 {w W:World} {x0 x7 x8:Sl} {l:List Pai} (h:zHL w x0 l) (hl4:l.length<=4096) {b j:Nat} {f0:Vf} (hv:zAK f0 l) (hj:j<maxN) (hI:SerI w b f0 j x7 x8 W):
  opE zA Sl.v (ze 22 0 [].toArray) W (λx76 w1=>opE zA Sl.v (Builtin.append_ #[22,22] 22 [(Sl.v x76),(Sl.v x0)].toArray) w1 (λx78 w1=>∃ (I:Sl->Int->World->Prop) (μ:Sl->Int->World->Nat),I x78 0 w1/\∀ (x14:Sl) (x81:Int) w1,I x14 x81 w1->Zt (λb w'=>b=true/\Bel w w') (ptrA b) x8 x14 x81 w1 (λx14' x81' w'=>I x14' x81' w'/\μ x14' x81' w'<μ x14 x81 w1))):=by
 obtain ⟨ρ,s,σ,es,Ss,As,ds,Sd,Ad,D,hM,hIs,hnow,hgiv,hbW,hρz,hσz,T,hT⟩:=hI
 unfold maxN at hj
 have b3:=Bel.alloc W (.cells #[] zAG)
 refine ⟨_,_,zIy W,?_⟩
 refine zO6 (w0:=W) (OwnS.lit0 (zU _)) ((h.bel hbW).bel b3) b3 (zU _) (by rw [size_alloc'];omega) (by simp;omega) λxc W1 hO1 b01 _=>?_
 rw [List.nil_append] at hO1
 obtain ⟨hcf,hch⟩:=zQb hT.ch
 have hR:Rd zm.cells 3 W x8 ds:=T.od.rd λ_=>rfl
 have hdl:=hR.len;have hcap:=hR.cap
 have hld:=T.cs.dlen;have hla:=T.ca.dlen;have hDl:=hT.dl;have hdj:=hT.dj
 refine ⟨λr i V=>∃ (n:Nat) (m:List Pai),i=(n:Int)/\n<=ds.length/\Bel W V/\xf W.heap.size V r m/\zAK (zI6 f0 (D.take n)) m,λ_ i _=>(x8.len - i).toNat,
  ⟨0,l,rfl,by omega,b01,hO1,by rw [List.take_zero];exact hv⟩,?_⟩
 rintro r i V ⟨n,m,rfl,hn,hb,hr,hm⟩
 have hbV:=hbW.trans hb
 have sV:=hb.le
 unfold Zt
 refine ⟨λhc=>?_,λhc=>?_⟩
 ·obtain ⟨d,hd⟩:=getE (l:=ds) (n:=n) (by omega)
  obtain ⟨Z,hZ⟩:=getE (l:=Sd) (n:=n) (by omega)
  obtain ⟨A,hA⟩:=getE (l:=Ad) (n:=n) (by omega)
  obtain ⟨q1,q2,q3⟩:=hT.dn n Z A hZ hA
  obtain ⟨g,hg1,hg2,cur,hg3,hg4⟩:=hch n _ q3
  have hml:m=cur:=hm.one hg3
  refine zDA (hR.bel hb) Yd ZX (by omega) (x:=d) (by simpa using hd) λad hAd=>?_
  refine Za zA5 d rfl hAd rfl ?_
  refine zBa zGX rfl zA5 (cs:=d.cells) rfl (zK2 d) rfl λX V1 b1 hX hX0=>?_
  refine Za zA5 d rfl hX.at rfl ?_
  have b1':=hb.trans b1
  refine zPS (g:=g) (hr.bel b1) b1'.le hm (by rw [hml];exact hg4) ((T.cs.dn n d Z hd hZ).1.bel b1') ((T.ca.dn n d A hd hA).1.bel b1') (λp hp=>(T.fd A (List.mem_of_getElem? hA) p hp).1.bel b1') q1 (by unfold maxN;omega) hg1 hg2 λr' V2 m' hr' hm' b2=>?_
  refine ⟨λh=>(nomatch h),λ_=>?_⟩
  rw [wr64 (by omega) (by omega)]
  exact ⟨⟨n+1,m',by omega,by omega,b1'.trans b2,hr',by rw [zNg q3];exact hm'⟩,by dsimp only;omega⟩
 ·obtain rfl:n=ds.length:=by omega
  rw [List.take_of_length_le (by omega),← hcf] at hm
  have hM1:=hM.bel hb
  refine zOy hM1 hIs (by omega) λρ2 W2 hM2 hE2=>?_
  have hbW2:Bel w W2:=hE2.base hbV hρz
  rcases zOH s with ⟨h0,hbg,hcn⟩|h3
  ·rw [hbg] at hM2 ⊢
   simp only at hM2 ⊢
   refine ⟨λh=>absurd rfl h,λ_=>?_⟩
   have hI2:=zL5 hIs hcn
   obtain ⟨hs1,hs2⟩:=zPl hI2 hIs.free hm
   obtain ⟨hO2,hOρ2⟩:=hr.ext (λq hq=>hM.new (hr.lo hq)) hE2
   refine zQs hM2 hI2 (s.given+1) noB noB λr3 ρ3 W3 hM3 hE3 hO3 hρ3=>?_
   obtain ⟨hO3',hOρ3⟩:=hO2.ext hOρ2 hE3
   rw [hs2] at hO3
   rw [hs1]
   refine ⟨λ_=>?_,λh=>absurd rfl h⟩
   refine zNn (xf.rd hO3) (xf.rd hO3') λc W4 hc4 b4=>?_
   unfold zAH
   exact ⟨hc4.2 rfl,((hE2.trans hE3).base hbV hρz).trans b4⟩
  ·refine ⟨λ_=>⟨decide_eq_true h3,hbW2⟩,λh=>absurd (by rw [h3];decide) h⟩
theorem zPJ {w:World} {x0 x1:Sl} {l:List Pai} {steps:List za} (h:zHL w x0 l) (h1:zTn w x1 steps) (hB:steps.length*64<=140737488351232):
  Cl zA zHX [Sl.v x0,Sl.v x1].toArray w (λe w'=>∃ r0:Bool,e=.returned (.bool r0)/\(r0=true/\Bel w w')):=by
 refine zHa x0 x1 w (λb w'=>b=true/\Bel w w') ?_
 have hbig:=h1.big;have hcap:=h1.cap;have hlen:=h1.len
 unfold zC4
 refine zQq w λw1 b1=>⟨λh=>(nomatch h),λ_=>?_⟩
 refine zS0 (h.bel b1) (λw2 he b2=>⟨λ_=>?_,λh=>absurd he h⟩) λb ρ w2 he hI hv b2 m2 hρ=>⟨λh=>absurd rfl h,λ_=>zLR _ ?_⟩
 ·unfold ZO
  refine ⟨λ_=>⟨λ_=>zLR none ?_,λh=>absurd he h⟩,λh=>(nomatch h)⟩
  exact ⟨rfl,b1.trans b2⟩
 have hl4:=zQP he
 have b02:=b1.trans b2
 have hρ0:∀ q,q<w.heap.size->ρ q=none:=λq hq=>hρ q (yF hq b1.le)
 unfold ZO
 refine ⟨λh=>(nomatch h),λ_=>?_⟩
 obtain ⟨f0,hf0⟩:∃ f0:Vf,f0=λk=>val (newS l).l k 1:=⟨_,rfl⟩
 have hT0:Told (newS l) [] [] [] [] [] [] f0 0:=
  ⟨λi i' e e' he=>by simp at he,zU _,λi e Z A he=>by simp at he,λn _ t ht=>(nomatch ht),rfl,zU _,λi M N hM=>by simp at hM,by rw [hf0];exact zJY.nil⟩
 rw [← hf0] at hv
 refine ⟨λx7 x8 i W=>∃ j:Nat,i=(j:Int)/\j<=steps.length/\SerI w b f0 j x7 x8 W,λ_ _ i _=>(x1.len - i).toNat,
  ⟨0,rfl,by omega,ρ,newS l,λ_=>none,[],[],[],[],[],[],[],m2,hI,by show (1:Int)<=1+(0:Nat);decide,by show (0:Int)<=(0:Nat);decide,b02,hρ0,λ_ _=>rfl,zPs ρ w2,hT0⟩,?_⟩
 rintro x7 x8 i W ⟨j,rfl,hj,hSer⟩
 unfold zA7
 refine ⟨λhc=>?_,λhc=>zN8 h hl4 hv (by unfold maxN;omega) hSer⟩
 obtain ⟨ρ1,s,σ,es,Ss,As,ds,Sd,Ad,D,hM,hIs,hnow,hgiv,hbW,hρz,hσz,T,hT⟩:=hSer
 have hn1:s.now+1<=maxT:=by unfold maxT;omega
 obtain ⟨st,hst⟩:=getE (l:=steps) (n:=j) (by omega)
 refine zDA (h1.bel hbW) zGI zHe (by omega) (x:=st) (by simpa using hst) λad hA=>?_
 refine Za zBq st rfl hA rfl ?_
 refine zBa zIj rfl zBq (cs:=st.cells) rfl rfl rfl λX W1 b5 hX hX0=>?_
 refine Za zBq st rfl hX.at rfl ?_
 have hXρ:ρ1 X=none:=hM.new hX0
 have hXσ:σ X=none:=by
  cases hq:σ X with
  |none=>rfl
  |some r=>have:=T.rols.lt X (by rw [hq];simp);omega
 refine zTA (hM.bel b5) hIs (by omega) (by omega) st λy ρ2 W2 hM2 hE2 hy=>?_
 have heff:=zRW hIs hn1 st
 have hnn:=zMV heff
 have hI':=zMX hIs hn1 heff
 have T2:=(T.bel b5).ext hE2
 have hX2:Row W2 X st.cells Zl:=hX.keep (hE2.blk hX.lt hXρ)
 have s5:=b5.le;have s2:=hE2.out.size
 generalize (doS s st).1=s' at hM2 heff hnn hI'
 generalize (doS s st).2=a at hy heff
 have hfix2:Fix σ ρ2 W2 (y,a):=⟨hy.ans,λq hq=>by
  rcases hq with hq|hq
  ·refine ⟨hy.pairs.lt hq,hy.rp q hq,?_⟩
   cases hr:σ q with
   |none=>rfl
   |some r=>have:=T.rols.lt q (by rw [hr];simp);have:=hy.pairs.lo hq;omega
  ·refine ⟨hy.done.lt hq,hy.rd q hq,?_⟩
   cases hr:σ q with
   |none=>rfl
   |some r=>have:=T.rols.lt q (by rw [hr];simp);have:=hy.done.lo hq;omega⟩
 refine zBa zEl rfl Zk (cs:=y.cells) rfl (zPC y) rfl λY W3 b6 hY hY0=>?_
 have hX3:=hX2.bel b6
 have T3:=T2.bel b6
 have hM3:=hM2.bel b6
 have s6:=b6.le
 have hbW2:Bel w W2:=hE2.base (hbW.trans b5) hρz
 have hbW3:=hbW2.trans b6
 have hs0:=hbW.le
 have hρ2z:∀ k,k<w.heap.size->ρ2 k=none:=λk hk=>(hE2.same k (by omega)).trans (hρz k hk)
 have hfix3:Fix σ ρ2 W3 (y,a):=hfix2.keep s6 (λk h1 _ _=>b6.block k h1) (λ_ _ _ h=>h) λ_ _=>rfl
 have hcs:=T.cs.len;have hca:=T.ca.len
 have hdcs:=T.cs.dlen;have hdca:=T.ca.dlen
 have J4:∀ (r7 r8:Sl) (W4:World) σ' es' Ss' As' ds' Sd' Ad' D',Out (λk=>σ k≠none) W3 W4->(∀ k,k<W3.heap.size->σ k=none->σ' k=none)->TAll σ' ρ2 W4 r7 es' Ss' As' r8 ds' Sd' Ad'->Told s' es' Ss' As' Sd' Ad' D' f0 (j+1)->
   Yq (j:Int) (λa b' i' w'=>(∃ j:Nat,i'=(j:Int)/\j<=steps.length/\SerI w b f0 j a b' w')/\(x1.len - i').toNat<(x1.len - (j:Int)).toNat) r7 r8 W4:=by
  intro r7 r8 W4 σ' es' Ss' As' ds' Sd' Ad' D' hO hσ' hT4 hTo
  unfold Yq
  rw [wr64 (by omega) (by omega)]
  refine ⟨⟨j+1,by omega,by omega,ρ2,s',σ',es',Ss',As',ds',Sd',Ad',D',hM3.out hO λk hk=>T3.rols.dis k hk,hI',by omega,by omega,hO.bel hbW3 λk hk hne=>hne (hσz k hk),hρ2z,λk hk=>hσ' k (by omega) (hσz k hk),hT4,hTo⟩,by omega⟩
 refine yA ZL zBN hX3.at st.Kind rfl ⟨λhk=>?_,λhk=>?_⟩
 ·refine Za zBq st rfl hX3.at rfl ?_
  refine Za Zk y rfl hY.at rfl ?_
  have hlens:∀ (i:Nat) (Z:List za) (A:List (zW × Ans)),Ss[i]?=some Z->As[i]?=some A->Z.length=A.length/\Z.length<=j:=λi Z A hZ hA=>by
   obtain ⟨e,he⟩:=getE (l:=es) (n:=i) (by have:=(List.getElem?_eq_some_iff.1 hZ).1;omega)
   exact ⟨(hT.nt i e Z A he hZ hA).1,(hT.nt i e Z A he hZ hA).2.1⟩
  have hlen:=hT.ln
  refine zRJ T3 (λk hk=>hM3.new hk) st (y,a) hfix3 (by unfold maxN;omega) (λZ hZ=>?_) (λA hA=>?_) (λi e Z A σ' W' e' he hex hZ hA hex' hT' hO' hσ'=>?_) λhno r σ' W' e' hex' hT' hO' hσ'=>?_
  ·obtain ⟨i,hi⟩:=zMu hZ
   obtain ⟨A,hA⟩:=getE (l:=As) (n:=i) (by have:=(List.getElem?_eq_some_iff.1 hi).1;omega)
   have:=hlens i Z A hi hA
   unfold maxN;omega
  ·obtain ⟨i,hi⟩:=zMu hA
   obtain ⟨Z,hZ⟩:=getE (l:=Ss) (n:=i) (by have:=(List.getElem?_eq_some_iff.1 hi).1;omega)
   have:=hlens i Z A hZ hi
   unfold maxN;omega
  ·exact J4 _ _ _ _ _ _ _ _ _ _ D hO' hσ' hT' (hT.noteA hIs hn1 heff hk hcs hca he hex hex' hZ hA rfl)
  ·exact J4 _ _ _ _ _ _ _ _ _ _ D hO' hσ' hT' (hT.noteB hIs hn1 heff hk hcs hca hno hex' rfl)
 have hk6:st.Kind=6:=Classical.not_not.1 hk
 refine yA ZD zBk hY.at y.Why rfl ⟨λhw=>?_,λhw=>?_⟩
 ·have hw0:a.why=0:=by rw [← hy.why];exact hw
  have hol:=T3.oo.len
  refine ⟨λr i V=>∃ (n:Nat) (σ':Rol) (ds':List Tld) (Sd':List (List za)) (Ad':List (List (zW × Ans))),i=(n:Int)/\n<=es.length/\TAll σ' ρ2 V x7 es Ss As r ds' Sd' Ad'/\Out (λk=>σ k≠none) W3 V/\(∀ k,k<W3.heap.size->σ k=none->σ' k=none)/\Row V X st.cells Zl/\
    ((∀ e∈es.take n,e.tx≠st.Tx)/\ds'=ds/\Sd'=Sd/\Ad'=Ad∨∃ (i:Nat) (e:Tld) (Z:List za) (A:List (zW × Ans)),i<n/\es[i]?=some e/\e.tx=st.Tx/\Ss[i]?=some Z/\As[i]?=some A/\ds'=ds++[e]/\Sd'=Sd++[Z]/\Ad'=Ad++[A]),λ_ i _=>(x7.len - i).toNat,
   ⟨0,σ,ds,Sd,Ad,rfl,by omega,T3,Out.refl _ _,λ_ _ h=>h,hX3,.inl ⟨by simp,rfl,rfl,rfl⟩⟩,?_⟩
  rintro r i V ⟨n,σ',ds',Sd',Ad',rfl,hn,TV,hOV,hσV,hXV,hcs2⟩
  have hlen:=hT.ln
  unfold zA8
  refine ⟨λhc5=>?_,λhc5=>?_⟩
  ·obtain ⟨e,he⟩:=getE (l:=es) (n:=n) (by omega)
   have hR:Rd zm.cells 3 V x7 es:=TV.oo.rd λ_=>rfl
   refine zDA hR Yd ZX (by omega) (x:=e) (by simpa using he) λad0 hA0=>?_
   refine Za zA5 e rfl hA0 rfl ?_
   refine zBa zGX rfl zA5 (cs:=e.cells) rfl (zK2 e) rfl λE V1 b1V hE1 hE0=>?_
   have hXV1:=hXV.bel b1V
   have TV1:=TV.bel b1V
   have sV:=hOV.size;have sV1:=b1V.le
   refine yA zFj zAM hE1.at e.tx rfl ?_
   refine yA Zu zAM hXV1.at st.Tx rfl ⟨λheq=>?_,λhne=>?_⟩
   ·obtain ⟨Z,hZ⟩:=getE (l:=Ss) (n:=n) (by omega)
    obtain ⟨A,hA2⟩:=getE (l:=As) (n:=n) (by omega)
    obtain ⟨hno,rfl,rfl,rfl⟩:=hcs2.resolve_right (by
     rintro ⟨i,e2,Z2,A2,hi,he2,hx2,_⟩
     have:=hT.nd i n e2 e he2 he (hx2.trans heq.symm)
     omega)
    refine Za zA5 e rfl hE1.at rfl ?_
    have hdj:=hT.dj
    refine zOv (x:=e) TV1.od (λ_=>rfl) zK2 (by decide) Yd zFZ rfl (zFs e) (Nat.zero_le _) (by omega) (by omega) λr' V2 hO2 hcase=>?_
    have s12:V1.heap.size<=V2.heap.size:=by
     rcases hcase with ⟨_,h⟩|⟨h,_⟩
     ·exact h.size
     ·exact h.le
    have own0:∀ k,(Sl.v r).ownBlock=some k->k<V.heap.size/\σ' k=some .dn:=λk hk=>by have:=TV.rd k hk;exact ⟨TV.rols.lt k (by rw [this];simp),this⟩
    have hXl:=hX3.lt
    have TV2:=TV1.copy (λk hk=>hM3.new (by omega)) he hZ hA2 s12 hO2 hcase
    have hX':Row V2 X st.cells Zl:=hXV1.keep (by
     rcases hcase with ⟨_,h⟩|⟨h,_⟩
     ·exact h.block X (by omega) λe1=>by
       have h1:=(own0 X e1.symm).2
       rw [hσV X hXl hXσ] at h1;cases h1
     ·exact h.block X (by omega))
    have hσ2:∀ k,k<W3.heap.size->σ k=none->took σ' r' .dn k=none:=λk hk h1=>by
     have h2:=hσV k hk h1
     rw [zEL (W:=V1) (s:=r) TV1.rd (hcase.imp (·.1) (·.2)) (by omega) (by rw [h2];simp)]
     exact h2
    have hO13:Out (λk=>(Sl.v r).ownBlock=some k) V1 V2:=by
     rcases hcase with ⟨_,h⟩|⟨h,_⟩
     ·exact Out.row h λk hk=>.inl hk
     ·exact h.out
    have hOV2:Out (λk=>σ k≠none) W3 V2:=(hOV.trans (T:=λk=>σ k≠none) b1V.out λk _ h=>h).trans hO13 λk hk h1=>λh0=>by
     have h2:=(own0 k h1).2
     rw [hσV k hk h0] at h2;cases h2
    unfold ZP
    rw [wr64 (by omega) (by omega)]
    exact ⟨⟨n+1,_,_,_,_,by omega,by omega,TV2,hOV2,hσ2,hX',.inr ⟨n,e,Z,A,by omega,he,heq,hZ,hA2,rfl,rfl,rfl⟩⟩,by dsimp only;omega⟩
   ·unfold ZP
    rw [wr64 (by omega) (by omega)]
    refine ⟨⟨n+1,σ',ds',Sd',Ad',by omega,by omega,TV1,hOV.trans (T:=λk=>σ k≠none) b1V.out λk _ h=>h,hσV,hXV1,?_⟩,by dsimp only;omega⟩
    rcases hcs2 with ⟨hno,h2⟩|⟨i,e2,Z2,A2,hi,h2⟩
    ·refine .inl ⟨λu hu=>?_,h2⟩
     rw [zA0 he] at hu
     rcases List.mem_append.1 hu with h3|h3
     ·exact hno u h3
     ·simp at h3;subst h3;exact hne
    ·exact .inr ⟨i,e2,Z2,A2,by omega,h2⟩
  ·obtain rfl:n=es.length:=by omega
   rcases hcs2 with ⟨hno,rfl,rfl,rfl⟩|⟨i,e2,Z2,A2,hi,he2,hx2,hZ2,hA2,rfl,rfl,rfl⟩
   ·rw [List.take_length] at hno
    exact J4 _ _ _ _ _ _ _ _ _ _ D hOV hσV TV (hT.same hIs hn1 heff hk6 (.inr hno))
   ·exact J4 _ _ _ _ _ _ _ _ _ _ _ hOV hσV TV (hT.done hIs hn1 heff hk6 hw0 he2 hx2 hZ2 hA2 (by omega))
 ·exact J4 _ _ _ _ _ _ _ _ _ _ D (Out.refl _ _) (λ_ _ h=>h) T3 (hT.same hIs hn1 heff hk6 (.inl (by rw [← hy.why];exact hw)))
end Go.Proofs.YtealcoghiaeiiaaGreat.VG
