/- Texts by which the law's calls are walked (part 9): rules, printed conditions, contracts; no condition. -/
import Derived.TacticsIn
import Derived.TacticsInMore
import Derived.Deep.LoopGhost
import Derived.Sort.QuietThIn
import Derived.RangeFuncCalls
import Derived.RangeFuncNested
import Derived.RangeFuncLeaves
import Derived.WalkKit
import Derived.StillTail
import Derived.Test.YtealcoghiaeiiaaGreatProg
import Derived.KernelRfl
import Derived.Deep.WholeRow
import Derived.Laws.StructEq
import Derived.MapFrom
import Derived.Laws.CopyRow
import Derived.Maps.RangeRun
import Derived.Sort.Walk0
import Derived.RangeFuncBound
import Derived.Test.YtealcoghiaeiiaaGreatPkTxnApartH
set_option linter.unusedVariables false
set_option linter.unusedSimpArgs false
namespace Go.Proofs.YtealcoghiaeiiaaGreat.VG
open Go.VB Go.Proofs Go.RowKit
theorem zR2 {w:World} {x0 x1:Sl} {l:List Pai} {steps:List zAr} (h:PaiRd w x0 l) (h1:SteRd w x1 steps) (key:ByteArray):
  Cl Tryz.prog zLD [Sl.v x0,Sl.v x1,.string key].toArray w (fun e w'=>∃ r0:Bool,e=.returned (.bool r0)∧(r0=true∧Bel w w')):=by
 refine zK7 x0 x1 key w (fun b w'=>b=true∧Bel w w') ?_
 have hbig:=h1.big;have hcap:=h1.cap;have hlen:=h1.len
 unfold zHc
 refine zSA w fun w1 b1=>⟨fun h=>(nomatch h),fun _=>?_⟩
 have err:∀ (e:Int) W,e≠0→Bel w1 W→zDx x1 key (fun b w'=>b=true∧Bel w w') none e true W:=by
  intro e W he hb
  unfold zDx
  refine ⟨fun _=>⟨fun _=>pnilM none ?_,fun h=>absurd he h⟩,fun h=>(nomatch h)⟩
  exact ⟨rfl,b1.trans hb⟩
 refine zSs (h.bel b1) (fun _=>⟨fun _=>err 3 w1 (by decide) (Bel.refl _),fun h=>absurd (by decide) h⟩) (fun _ _ w2 b2=>⟨fun _=>err 4 w2 (by decide) b2,fun h=>absurd (by decide) h⟩)
  (fun _ _ _ w2 b2=>⟨fun _=>err 2 w2 (by decide) b2,fun h=>absurd (by decide) h⟩) fun g1 g2 g3 b ρ w2 b2 m2 hρ=>⟨fun h=>absurd rfl h,fun _=>pnilM _ ?_⟩
 have b02:=b1.trans b2
 have hρ0:∀ q,q<w.heap.size→ρ q=none:=fun q hq=>hρ q (Nat.lt_of_lt_of_le hq b1.le)
 have hI:=zSM g1 g2 g3
 unfold zDx
 refine ⟨fun h=>(nomatch h),fun _=>?_⟩
 have hc0:cnt (newS l).tx=0:=zNp (ks:=[]) ⟨List.nodup_nil,fun k=>by simp [newS]⟩
 refine zQo m2 hI (by show (0:Int)<_;decide) fun ρ3 w3 m3 e3=>?_
 have hb:zJJ (newS l)=(begun (newS l),{ans0 with tx:=1}):=by unfold zJJ;rw [if_neg (by rw [hc0];decide)];rfl
 rw [hb] at m3 ⊢
 simp only at m3 ⊢
 have hI1:Inv (begun (newS l)):=zO3 hI (by rw [hc0];decide)
 have ht1:(begun (newS l)).tx 1=some (newTx (newS l)):=by show upd (newS l).tx 1 _ 1=_;rw [zEE]
 refine get_f m3 1 key fun ρ4 w4 m4 e4=>?_
 rw [zQx hI1 ht1 (by show 0<256;decide) key] at m4 ⊢
 simp only at m4 ⊢
 have hn1:(begun (newS l)).now=1:=rfl
 have hg1:(begun (newS l)).given=1:=rfl
 generalize begun (newS l)=s1 at m4 hI1 ht1 hn1 hg1 ⊢
 have tb:(newTx (newS l)).began=1:=rfl
 have tw:∀ k,(newTx (newS l)).wr k=none:=fun k=>rfl
 have tr:(newTx (newS l)).reads.length=0:=rfl
 generalize newTx (newS l)=t1 at ht1 m4 tb tw tr ⊢
 have ht2:=zTR ht1 key
 have hI2:Inv (if 256<key.size then s1 else setTx s1 1 (addR t1 (spanK key))):=by
  split
  ·exact hI1
  ·exact zMV hI1 ht1 rfl (zPm (hI1.txok 1 t1 ht1) (by omega) _)
 have hv2:(if 256<key.size then s1 else setTx s1 1 (addR t1 (spanK key))).l=s1.l:=by split<;>rfl
 have hn2:(if 256<key.size then s1 else setTx s1 1 (addR t1 (spanK key))).now=1:=by split<;>exact hn1
 have hg2:(if 256<key.size then s1 else setTx s1 1 (addR t1 (spanK key))).given=1:=by split<;>exact hg1
 generalize (if 256<key.size then s1 else setTx s1 1 (addR t1 (spanK key)))=s2 at m4 ht2 hI2 hv2 hn2 hg2 ⊢
 have e24:=e3.trans e4
 -- what it sees
 have htb:(if 256<key.size then t1 else addR t1 (spanK key)).began=1:=by split<;>exact tb
 have htw:∀ k,(if 256<key.size then t1 else addR t1 (spanK key)).wr k=none:=fun k=>by split<;>exact tw k
 have htr:(if 256<key.size then t1 else addR t1 (spanK key)).reads.length≤1:=by
  split
  ·omega
  ·show (t1.reads++[spanK key]).length≤1;rw [List.length_append,tr];simp
 generalize hT:(if 256<key.size then t1 else addR t1 (spanK key))=t2 at ht2 htb htw htr
 clear hT
 refine ⟨fun i W=>∃ (j:Nat) (ρ':Own) (s:St),i=(j:Int)∧j≤steps.length∧Mgr ρ' W b s∧Inv s∧Ext ρ w2 ρ' W∧s.tx 1=some t2∧s.now≤1+j∧s.given≤1+j∧(∀ k,val s.l k 1=val s1.l k 1),fun i _=>(x1.len - i).toNat,
  ⟨0,ρ4,s2,rfl,by omega,m4,hI2,e24,ht2,by omega,by omega,fun k=>by rw [hv2]⟩,?_⟩
 rintro i W ⟨j,ρ',s,rfl,hj,hM,hIs,g,hts,hnow,hgiv,hval⟩
 have hbW:Bel w W:=g.base b02 hρ0
 have hin:s.tx 1=some t2:=hts
 unfold zFg
 refine ⟨fun hc=>?_,fun hc=>?_⟩
 ·obtain ⟨st,hst⟩:=getE (l:=steps) (n:=j) (by omega)
  refine zLL (h1.bel hbW) zNL zNG (by omega) (x:=st) (by simpa using hst) fun ad hA=>?_
  refine zII zKk st rfl hA rfl ?_
  refine zJb zN2 rfl zKk (cs:=st.cells) rfl rfl rfl fun X W1 b5 hX hX0=>?_
  refine zDi zEl zF4 hX.at st.Tx rfl ?_
  refine ⟨_,W1,zEl _ _,?_⟩
  refine zNK zF4 hX rfl (by simp [zAr.cells]) rfl fun W2 hX2 g5=>?_
  let st':zAr:={st with Tx:=IntKind.wrap .i64 (st.Tx+1)}
  replace hX2:Row W2 X st'.cells zLC:=hX2
  have b5':Bel W W2:=b5.grown g5 fun r hr=>by cases hr;exact hX0
  refine zII zKk st' rfl hX2.at rfl ?_
  have hsmall:s.now<4611686018427387904∧s.given<4611686018427387904:=by omega
  refine do_ok (hM.bel b5') hIs hsmall.1 hsmall.2 st' fun y ρ6 W3 hM3 hE3 hy=>?_
  have hX3:Row W3 X st'.cells zLC:=hX2.keep (hE3.blk hX2.lt (by
   cases hρX:ρ' X with
   |none=>rfl
   |some r=>have:=hM.lt X (by rw [hρX];simp);omega))
  refine zDi zEl zF4 hX3.at st'.Tx rfl ?_
  have hE':=(g.trans (Ext.bel b5')).trans hE3
  refine ⟨fun _=>⟨rfl,hE'.base b02 hρ0⟩,fun hne=>?_⟩
  have heff:=zS6 hIs (by show s.now+1≤maxT;unfold maxT;omega) st'
  generalize (doS s st').1=s' at hM3 heff
  generalize (doS s st').2=a' at hy heff
  have hI':=zSx hIs (by unfold maxT;omega) heff
  have ht':=zRq hIs heff hts (.inl hne)
  have hnn:=zTW heff
  have hlow':=(hI'.tim 1 t2 ht').1
  rw [wr64 (by omega) (by omega)]
  refine ⟨⟨j+1,ρ6,s',by omega,by omega,hM3,hI',hE',ht',by omega,by omega,fun k=>?_⟩,by dsimp only;omega⟩
  rw [zTK hIs (by unfold maxT;omega) heff (T:=1) (by have:=(hIs.tim 1 t2 hts).2;rw [htb] at this;exact this) (by rw [htb] at hlow';exact hlow') k]
  exact hval k
 ·refine get_f hM 1 key fun ρ6 W3 hM3 hE3=>?_
  rw [zQx hIs hts (by omega) key]
  have hsee:seeV s t2 key=seeV s1 t1 key:=by
   unfold seeV tview ovl
   rw [htw,tw,htb,tb]
   simp only [hval]
  rw [hsee]
  have hend:Bel w W3:=(g.trans hE3).base b02 hρ0
  refine ⟨fun _=>?_,fun h=>absurd rfl h⟩
  unfold zE5
  refine ⟨fun _=>?_,fun h=>?_⟩
  ·refine eqB_e _ _ ?_
   unfold zE1
   exact ⟨decide_eq_true rfl,hend⟩
  ·exact absurd (decide_eq_true rfl) (by rw [h];decide)
end Go.Proofs.YtealcoghiaeiiaaGreat.VG
