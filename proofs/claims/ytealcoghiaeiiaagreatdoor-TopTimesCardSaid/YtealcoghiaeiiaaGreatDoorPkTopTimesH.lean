/- Texts by which the law's calls are walked (part 8): rules, printed conditions, contracts; no condition. -/
import Derived.TacticsIn
import Derived.TacticsInMore
import Derived.Deep.LoopGhost
import Derived.Sort.QuietThIn
import Derived.RangeFuncCalls
import Derived.RangeFuncNested
import Derived.RangeFuncLeaves
import Derived.WalkKit
import Derived.StillTail
import Derived.Test.YtealcoghiaeiiaaGreatDoorProg
import Derived.KernelRfl
import Derived.Deep.WholeRow
import Derived.Laws.StructEq
import Derived.MapFrom
import Derived.Laws.CopyRow
import Derived.Maps.RangeRun
import Derived.Sort.Walk0
import Derived.RangeFuncBound
import Derived.Test.YtealcoghiaeiiaaGreatDoorPkTopTimesG
open Go.Proofs.Tryz renaming prog → zA
open Go.IntKind renaming wrap → zB
open Go.Value renaming pointer → zC, int → zU, string → zY, bool → YR
open Go.Instr renaming loadAt → zE, storeAt → zI, indexAt → zF, fieldAt → zN, alloc → ze, build → yo, buildSlice → zl
open Nat renaming le_refl → zV, le_trans → zj, lt_of_lt_of_le → QR
open List renaming length_append → yB
set_option linter.unusedVariables false
namespace Go.Proofs.YtealcoghiaeiiaaGreatDoor.VG
open Go.VB Go.VB.Srt Go.Proofs Go.RowKit
theorem zOB {w u W:World} {x1:Sl} {l:List Ver} {m:List Wri} {low t:Int} {B5 B6 B9:Nat} {r:Sl} (hm:zKG w x1 m) (hbu:Bel w u) (hs:l.Pairwise vlt) (hn:(zDn m).Nodup) (hl:∀ y∈l,y.At<t) (hlen:l.length+m.length<=4096)
  (h5:Row u B5 [.int .u64 t] zIK) (h6:Row u B6 zGW zx) (hB6:w.heap.size<=B6) (hR:Row W B9 [Sl.v r,.int .u64 low] zx) (hO:Y9 u.heap.size W r l) (hb:Bel u W) (hB9:u.heap.size<=B9)
  {k:zP->Int->World->Prop} (H:∀ r w' base,w.heap.size<=base->Y9 base w' r (putL l t m)->Bel w w'->k ⟨r,low⟩ 0 w'):
  zC3 x1 k (some ⟨B5,0,none⟩) (some ⟨B6,0,none⟩) (some ⟨B9,0,none⟩) W:=by
 have dbig:=hm.big;have dcap:=hm.cap;have dlen:=hm.len
 have hwu:=hbu.le
 have lt6:=h6.lt
 unfold zC3
 refine ⟨λi W'=>∃ (n:Nat) (sl:Sl),i=(n:Int)/\n<=m.length/\Row W' B9 [Sl.v sl,.int .u64 low] zx/\Y9 u.heap.size W' sl (l++(m.take n).map (mk t))/\Bel u W',λi _=>(x1.len - i).toNat,⟨0,r,rfl,by omega,hR,by simpa using hO,hb⟩,?_⟩
 rintro i W' ⟨n,sl,rfl,hnn,hR',hO',hb'⟩
 unfold zFJ
 refine ⟨λhlt=>?_,λhlt=>?_⟩
 ·obtain ⟨d,hdn⟩:=getW (l:=m) (n:=n) (by omega)
  have hmk:(m.take (n+1)).map (mk t)=(m.take n).map (mk t)++[mk t d]:=by rw [zB7 hdn,List.map_append];rfl
  refine zE2 (hm.bel (hbu.trans hb')) zBs zEk (by omega) (x:=d) (by simpa using hdn) λad hA=>?_
  refine zAs Q7 d rfl hA rfl ?_
  refine zBo zA5 rfl Q7 (cs:=d.cells) rfl rfl rfl λC w3 b3 hX hC=>?_
  refine yO xf zn hX.at d.Key rfl ?_
  refine zAF yE t ((h5.bel hb').bel b3).cell ?_
  refine yO zAe zn hX.at d.Val rfl ?_
  refine yO zBd zDa hX.at d.Gone rfl ?_
  refine ⟨⟨d.Key,t,d.Val,d.Gone⟩,w3,by kernel_rfl,?_⟩
  refine zBo zBP rfl yM (cs:=(⟨d.Key,t,d.Val,d.Gone⟩:Ver).cells) rfl rfl rfl λC2 w4 b4 hY hC2=>?_
  have b34:=b3.trans b4
  have hb4:=hb'.trans b34
  refine yO zBd zDa (hX.bel b4).at d.Gone rfl ?_
  have j5:∀ w5,Row w5 C2 (mk t d).cells yI->Row w5 B9 [Sl.v sl,.int .u64 low] zx->Y9 u.heap.size w5 sl (l++(m.take n).map (mk t))->Bel u w5->
    zCy (some ⟨B9,0,none⟩) n (λ(i':Int) (w':World)=>(∃ (n:Nat) (sl:Sl),i'=(n:Int)/\n<=m.length/\Row w' B9 [Sl.v sl,.int .u64 low] zx/\Y9 u.heap.size w' sl (l++(m.take n).map (mk t))/\Bel u w')/\(x1.len - i').toNat<(x1.len - (n:Int)).toNat) (some ⟨C2,0,none⟩) w5:=by
   intro w5 r1 r2 r3 r4
   unfold zCy
   refine zOZ (w0:=u) r2 r3 r1.at r4 (zV _) r4.le hB9 (by rw [yB,List.length_map,List.length_take];omega) λs' W5 q1 q2 q3 q4=>?_
   rw [wr64 (by omega) (by omega)]
   exact ⟨⟨n+1,s',by omega,by omega,q1,by rw [hmk,← List.append_assoc];exact q2,q3⟩,by omega⟩
  have hb'le:=hb'.le
  have b3le:=b3.le
  refine ⟨λhg=>?_,λhg=>?_⟩
  ·refine ⟨_,_,zBS _ w4,?_⟩
   refine zGT zn (off:=2) hY rfl (by simp) rfl λw5 hZ hg5=>?_
   refine j5 w5 ?_ (((hR'.bel b34)).grown hg5 (λe=>?_)) ((hO'.bel b34).kept hg5 ?_) (hb4.grown hg5 λr hr=>by cases hr;omega)
   ·rw [show (mk t d)=⟨d.Key,t,noB,d.Gone⟩ by unfold mk;rw [if_pos hg]];simpa using hZ
   ·have h1:=hR'.lt;have h2:=Option.some.inj e;omega
   ·cases ho:(Sl.v sl).ownBlock with
    |none=>exact .inl rfl
    |some q=>exact .inr λe=>by have h8:=(hO'.row.lt q ho).2;have h9:=Option.some.inj e;omega
  ·exact j5 w4 (by rw [show (mk t d)=⟨d.Key,t,d.Val,d.Gone⟩ by unfold mk;rw [if_neg (by rw [hg];decide)]];exact hY) (hR'.bel b34) (hO'.bel b34) hb4
 ·obtain rfl:n=m.length:=by omega
  rw [List.take_length] at hO'
  refine yO z9 z5 hR'.at sl rfl ?_
  refine SoCmpFunc_api_Version.sort_ok zPd zMo hO' λys w3 hp hle hO3 hg3=>?_
  have hys:=zQF hs hn hl hp hle
  subst hys
  have hR3:=hR'.grown hg3 (OwnS.ne_row hO' hR' (by decide))
  refine zAs z8 ⟨sl,low⟩ rfl hR3.at rfl ?_
  have hb3:Bel u w3:=hb'.grown hg3 λr hr=>hO'.lo hr
  refine zJX (h6.bel hb3) rfl λw4 hg4=>?_
  have hb6:Bel w w4:=(hbu.trans hb3).grown hg4 λr hr=>by cases hr;exact hB6
  refine H sl w4 u.heap.size hwu (hO3.kept hg4 ?_) hb6
  cases ho:(Sl.v sl).ownBlock with
  |none=>exact .inl rfl
  |some q=>exact .inr λe=>by have h8:=hO3.lo ho;have h9:=Option.some.inj e;omega
theorem zNc {w:World} {x0:zP} {x1:Sl} {l:List Ver} {m:List Wri} (h:zEf w x0.List l) (hm:zKG w x1 m) (t:Int) {k:zP->Int->World->Prop}
  (H:∀ r w' base,w.heap.size<=base->Y9 base w' r (vput l x0.Low m t).1->Bel w w'->k ⟨r,(vput l x0.Low m t).2.1⟩ (vput l x0.Low m t).2.2 w'):
  Cl zA zL4 [zP.v x0,Sl.v x1,.int .u64 t].toArray w (λe w'=>∃ (r0:zP) (r1:Int),e=.returned (.tuple [zP.v r0,.int .i64 r1].toArray)/\k r0 r1 w'):=by
 refine zMc x0 x1 t w k ?_
 have hbig:=h.big;have hcap:=h.cap;have hlen:=h.len
 have dbig:=hm.big;have dcap:=hm.cap;have dlen:=hm.len
 unfold zIl
 refine zAi (cs:=x0.cells) rfl λB3 w1 b1 hV hB3=>?_
 refine zAi (cs:=[.int .u64 t]) rfl λB5 w2 b2 hT hB5=>?_
 refine zD6 Zy λB6 w3 b3 hZ hB6=>?_
 have b03:=(b1.trans b2).trans b3
 have w1le:=b1.le;have w2le:=b2.le
 replace hV:=(hV.bel b2).bel b3
 replace hT:=hT.bel b3
 refine zAs z8 x0 rfl hV.at rfl ?_
 refine zJY (h.bel b03) λw4 b4=>?_
 have b04:=b03.trans b4
 have J2:∀ (c:Int) W,Bel w4 W->c=pwhy l x0.Low m t->zA3 x1 k (some ⟨B3,0,none⟩) (some ⟨B5,0,none⟩) (some ⟨B6,0,none⟩) c W:=by
  intro c W hb hc
  have b0W:=b04.trans hb
  have hZW:=(hZ.bel b4).bel hb
  unfold vput at H
  rw [← hc] at H
  unfold zA3
  refine ⟨λhne=>?_,λhz=>?_⟩
  ·rw [if_pos hne] at H
   refine ⟨zLf,W,by kernel_rfl,?_⟩
   have hbg:∀ W',W.grownBy W' (some B6)->Bel w W':=λW' hg=>b0W.grown hg λr hr=>by cases hr;omega
   exact zJX hZW rfl λW' hg=>H Sl.none W' W'.heap.size (hbg W' hg).le (OwnS.nil _ _ _ _ _) (hbg W' hg)
  rw [if_neg hz] at H
  obtain ⟨g1,g2,g3,g4,g5,g6,g7⟩:=zF3.1 (hc ▸ Classical.not_not.1 hz:pwhy l x0.Low m t=0)
  have hnd:=(zGU.1 g2).2.2
  refine ⟨Bel W,λu bu=>⟨bu,?_⟩⟩
  have b0u:=b0W.trans bu
  have hVu:=((hV.bel b4).bel hb).bel bu
  have hTu:=((hT.bel b4).bel hb).bel bu
  have hZu:=hZW.bel bu
  have hVb:∀ W',Bel W W'->Row W' B3 x0.cells zx:=λW' hw=>((hV.bel b4).bel hb).bel hw
  refine zFa z9 ?_
  refine zFa Zj ?_
  refine zCk z5 x0.List (λW' hW'=>(hVb W' hW').at.fld rfl) ?_
  refine zCk yE x0.Low (λW' hW'=>(hVb W' hW').at.fld rfl) ?_
  have fin:=λ(r:Sl) (B9:Nat) (W':World) (hR:Row W' B9 [Sl.v r,.int .u64 x0.Low] zx) (hO:Y9 u.heap.size W' r l) (hb':Bel u W') (hB9:u.heap.size<=B9)=>zOB (low:=x0.Low) (k:=k) hm b0u g1.sorted hnd g6 g7 hTu hZu (by omega) hR hO hb' hB9 H
  constructor
  ·refine zH7 (h.bel b0u) (by omega) λr W1 hO c1=>?_
   refine ⟨bu.trans c1,?_⟩
   refine ⟨⟨r,x0.Low⟩,λW' _=>by kernel_rfl,?_⟩
   refine zD6 Zy λB9 W2 c2 hR hB9=>?_
   refine ⟨(bu.trans c1).trans c2,?_⟩
   have c1le:=c1.le
   refine zIF z8 hR rfl rfl rfl λW3 hR3 hg3=>?_
   have c3:Bel u W3:=(c1.trans c2).grown hg3 λr hr=>by cases hr;omega
   exact ⟨bu.trans c3,fin r B9 W3 hR3 ((hO.bel c2).kept hg3 (.inr (OwnS.ne_row (hO.bel c2) hR (by decide)))) c3 (by omega)⟩
  ·refine zD6 Zy λB9 W1 c1 hR hB9=>?_
   refine ⟨bu.trans c1,?_⟩
   refine zH7 (h.bel (b0u.trans c1)) (by omega) λr W2 hO c2=>?_
   refine ⟨(bu.trans c1).trans c2,?_⟩
   refine ⟨⟨r,x0.Low⟩,λW' _=>by kernel_rfl,?_⟩
   have hR2:=hR.bel c2
   refine zIF z8 hR2 rfl rfl rfl λW3 hR3 hg3=>?_
   have c3:Bel u W3:=(c1.trans c2).grown hg3 λr hr=>by cases hr;omega
   have hO':Y9 u.heap.size W2 r l:=⟨hO.len,hO.small,hO.row.1,by
    rcases hO.row.2 with h1|⟨g,cap,cur,p1,p2,p3⟩
    ·exact .inl h1
    ·exact .inr ⟨g,cap,cur,p1,zj c1.le p2,p3⟩⟩
   exact ⟨bu.trans c3,fin r B9 W3 hR3 (hO'.kept hg3 (.inr (OwnS.ne_row hO' hR2 (by decide)))) c3 hB9⟩
 have J1:∀ (c:Int) W,Bel w4 W->(c≠0->c=pwhy l x0.Low m t)->(c=0->vchk l x0.Low=0/\zHG m=0)->zCz x1 k (some ⟨B3,0,none⟩) (some ⟨B5,0,none⟩) (some ⟨B6,0,none⟩) c W:=by
  intro c W hb hc1 hc2
  have b0W:=b04.trans hb
  unfold zCz
  refine ⟨λhne=>J2 c W hb (hc1 hne),λhz=>?_⟩
  obtain rfl:c=0:=Classical.not_not.1 hz
  obtain ⟨e1,e2⟩:=hc2 rfl
  have hp:pwhy l x0.Low m t=if t<1∨2305843009213693952<t then 2 else if t<x0.Low∨(∃ x∈l,t<=x.At) then 9 else if 4096<l.length+m.length then 3 else 0:=by
   unfold pwhy;rw [if_neg (by simp [e1]),if_neg (by simp [e2])]
  have hg:=(zF4.1 e1).len
  have hm4:=(zGU.1 e2).1
  have hTW:=(hT.bel b4).bel hb
  have hVW:=(hV.bel b4).bel hb
  refine zAF yE t hTW.cell ?_
  have r7t:(t<1∨2305843009213693952<t)->zC2 x1 k (some ⟨B3,0,none⟩) (some ⟨B5,0,none⟩) (some ⟨B6,0,none⟩) 0 true W:=λht=>⟨λ_=>J2 2 W hb (by rw [hp,if_pos ht]),λh=>(nomatch h)⟩
  refine ⟨λht=>r7t (.inl ht),λht=>?_⟩
  refine zAF yE t hTW.cell ?_
  by_cases ht2:2305843009213693952<t
  ·rw [decide_eq_true ht2];exact r7t (.inr ht2)
  rw [decide_eq_false ht2]
  rw [if_neg (by omega)] at hp
  unfold zC2
  refine ⟨λh=>(nomatch h),λ_=>?_⟩
  refine zAF yE t hTW.cell ?_
  refine yO Zj yE hVW.at x0.Low rfl ?_
  have r8t:∀ W',Bel w4 W'->(t<x0.Low∨(∃ x∈l,t<=x.At))->zC1 x1 k (some ⟨B3,0,none⟩) (some ⟨B5,0,none⟩) (some ⟨B6,0,none⟩) 0 true W':=λW' hb' ht=>⟨λ_=>J2 9 W' hb' (by rw [hp,if_pos ht]),λh=>(nomatch h)⟩
  refine ⟨λhlo=>r8t W hb (.inl hlo),λhlo=>?_⟩
  refine yO z9 z5 hVW.at x0.List rfl ?_
  refine zLV (h.bel b0W) hTW λb W1 hbb b5=>?_
  cases b with
  |true=>exact r8t W1 (hb.trans b5) (.inr (hbb.1 rfl))
  |false=>
   rw [if_neg (λhx=>by
    rcases hx with h1|h1
    ·exact hlo h1
    ·have:=hbb.2 h1;cases this)] at hp
   unfold zC1
   refine ⟨λh=>(nomatch h),λ_=>?_⟩
   refine yO z9 z5 (hVW.bel b5).at x0.List rfl ?_
   rw [wr64 (by omega) (by omega)]
   exact ⟨λh4=>J2 3 W1 (hb.trans b5) (by rw [hp,if_pos (by omega)]),λh4=>J2 0 W1 (hb.trans b5) (by rw [hp,if_neg (by omega)])⟩
 refine ⟨λhc=>?_,λhc=>J1 _ w4 (Bel.refl _) (λ_=>by unfold pwhy;rw [if_pos hc]) (λh=>absurd h hc)⟩
 refine zOE (hm.bel b04) λw5 b5=>?_
 exact J1 _ w5 b5 (λhne=>by unfold pwhy;rw [if_neg (by simp [hc]),if_pos hne]) (λhz=>⟨hc,hz⟩)
end Go.Proofs.YtealcoghiaeiiaaGreatDoor.VG
set_option linter.unusedVariables false
namespace Go.Proofs.YtealcoghiaeiiaaGreatDoor.VG
open Go.VB Go.VB.Srt Go.Proofs Go.RowKit
theorem zQi {w:World} {x y:Pai} {o1 o2:Operand} {k:Bool->Prop} (H:∀ b:Bool,(b=true↔¬ x=y)->k b):
  opB zA YR (do eqGuard .neq zBA o1 o2 (zM.v x) (zM.v y);binOp .neq zBA (zM.v x) (zM.v y)) w k:=by
 obtain ⟨r,h1,h2⟩:=zLM x y o1 o2
 exact ⟨r,λw' _=>h1 w',H r h2⟩
theorem zL2 {w:World} {x0 x1:Sl} {l m:List Pai} (h:zIE w x0 l) (h':zIE w x1 m) {k:Bool->World->Prop} (H:∀ r w',(r=true↔l=m)->Bel w w'->k r w'):
  Cl zA zIW [Sl.v x0,Sl.v x1].toArray w (λe w'=>∃ r0:Bool,e=.returned (.bool r0)/\k r0 w'):=by
 refine zIQ x0 x1 w k ?_
 have hbig:=h.big;have hcap:=h.cap;have hlen:=h.len;have hlen':=h'.len
 unfold zEq
 refine ⟨λhc=>H false w ⟨λh=>(nomatch h),λh=>?_⟩ (Bel.refl _),λhc=>?_⟩
 ·subst h;omega
 have hc':(x0.len:Int)=x1.len:=Classical.not_not.1 hc
 refine ⟨λx w1=>∃ n:Nat,x=(n:Int)/\n<=l.length/\Bel w w1/\l.take n=m.take n,λx _=>(x0.len - x).toNat,⟨0,rfl,by omega,Bel.refl _,rfl⟩,?_⟩
 rintro x w1 ⟨n,rfl,hn,hb,hq⟩
 unfold zBY
 refine ⟨λhc=>?_,λhc=>?_⟩
 ·obtain ⟨e,he⟩:∃ e,l[n]?=some e:=⟨l[n]'(by omega),by simp⟩
  obtain ⟨f,hf⟩:∃ f,m[n]?=some f:=⟨m[n]'(by omega),by simp⟩
  refine zI4 (h.bel hb) Yu zAQ (by omega) (x:=e) (by simpa using he) λad hA=>?_
  refine zI6 ZF e rfl hA rfl ?_
  refine zI4 (h'.bel hb) Yu zAQ (by omega) (x:=f) (by simpa using hf) λad' hA'=>?_
  refine zI6 ZF f rfl hA' rfl ?_
  refine zQi λb hbb=>?_
  intro w2 hb2
  refine ⟨λht=>H false w2 ⟨λh=>(nomatch h),λh=>?_⟩ (hb.trans hb2),λhf0=>?_⟩
  ·subst h;rw [he] at hf;exact absurd (Option.some.inj hf) (hbb.1 ht)
  ·have hef:e=f:=Classical.not_not.1 λh=>by rw [hbb.2 h] at hf0;cases hf0
   subst hef
   rw [wr64 (by omega) (by omega)]
   exact ⟨⟨n+1,by omega,by omega,hb.trans hb2,zLI hq he hf⟩,by dsimp only;omega⟩
 ·obtain rfl:n=l.length:=by omega
  refine H true w1 ⟨λ_=>?_,λ_=>rfl⟩ hb
  rw [List.take_length,List.take_of_length_le (by omega)] at hq
  exact hq
abbrev tA:ByteArray:=ByteArray.mk #[97]
abbrev t1:ByteArray:=ByteArray.mk #[49]
abbrev t2:ByteArray:=ByteArray.mk #[50]
end Go.Proofs.YtealcoghiaeiiaaGreatDoor.VG
set_option linter.unusedVariables false
namespace Go.Proofs.YtealcoghiaeiiaaGreatDoor.VG
open Go.VB Go.VB.Srt Go.Proofs Go.RowKit
theorem zMS {low:Int} {x z:Ver} {o:Option Ver}:z∈zCG low x o↔z=x/\(∀ y,o=some y->y.Key=x.Key->low<y.At)/\¬ (x.Gone=true/\x.At<=low):=by
 unfold zCG
 by_cases h1:∃ y,o=some y/\y.Key=x.Key/\y.At<=low
 ·rw [if_pos h1]
  obtain ⟨y,h2,h3,h4⟩:=h1
  exact ⟨λh=>(nomatch h),λh=>by have:=h.2.1 y h2 h3;omega⟩
 ·rw [if_neg h1]
  by_cases h2:x.Gone=true/\x.At<=low
  ·rw [if_pos h2];exact ⟨λh=>(nomatch h),λh=>absurd h2 h.2.2⟩
  ·rw [if_neg h2]
   refine ⟨λh=>⟨by simpa using h,λy h3 h4=>Int.not_le.1 λh5=>h1 ⟨y,h3,h4,h5⟩,h2⟩,λh=>by simp [h.1]⟩
theorem zLd {low:Int} {z:Ver}:∀ {l:List Ver},l.Pairwise vlt->(z∈swp low l↔z∈l/\(∀ y∈l,y.Key=z.Key->z.At<y.At->low<y.At)/\¬ (z.Gone=true/\z.At<=low))
 |[],_=>by simp [swp]
 |x::r,hs=>by
  rw [List.pairwise_cons] at hs
  rw [swp,List.mem_append,zMS,zLd hs.2]
  have hxr:∀ y∈r,y.Key=x.Key->x.At<y.At:=λy hy hk=>by
   rcases hs.1 y hy with h|h
   ·rw [hk] at h;exact absurd h (Zg _)
   ·exact h.2
  constructor
  ·rintro (⟨rfl,h1,h2⟩|⟨h1,h2,h3⟩)
   ·refine ⟨by simp,λy hy hk hlt=>?_,h2⟩
    rcases List.mem_cons.1 hy with h3|h3
    ·subst h3;omega
    ·cases r with
     |nil=>simp at h3
     |cons h r=>
      rcases List.mem_cons.1 h3 with h4|h4
      ·subst h4;exact h1 y rfl hk
      ·have h5:=(List.pairwise_cons.1 hs.2).1 y h4
       have h6:=hs.1 h (by simp)
       have hhk:h.Key=z.Key:=by
        rcases h5 with h5|h5
        ·rcases h6 with h6|h6
         ·rw [hk] at h5;exact absurd h6 (zG0 h5)
         ·exact h6.1.symm
        ·exact h5.1.trans hk
       have h7:=h1 h rfl hhk
       rcases h5 with h5|h5
       ·rw [hk,hhk] at h5;exact absurd h5 (Zg _)
       ·omega
   ·refine ⟨List.mem_cons_of_mem _ h1,λy hy hk hlt=>?_,h3⟩
    rcases List.mem_cons.1 hy with h4|h4
    ·subst h4
     have:=hxr z h1 hk.symm
     omega
    ·exact h2 y h4 hk hlt
  ·rintro ⟨h1,h2,h3⟩
   rcases List.mem_cons.1 h1 with h4|h4
   ·left
    subst h4
    refine ⟨rfl,λy hy hk=>?_,h3⟩
    have hyr:y∈r:=List.mem_of_mem_head? hy
    exact h2 y (List.mem_cons_of_mem _ hyr) hk (hxr y hyr hk)
   ·right
    exact ⟨h4,λy hy=>h2 y (List.mem_cons_of_mem _ hy),h3⟩
theorem zMP (low:Int) (x:Ver) (o:Option Ver):(zCG low x o).Sublist [x]:=by
 unfold zCG;split
 ·exact List.nil_sublist _
 ·split
  ·exact List.nil_sublist _
  ·exact List.Sublist.refl _
theorem zHJ (low:Int):∀ l:List Ver,(swp low l).Sublist l
 |[]=>List.Sublist.refl _
 |x::r=>by
  rw [swp]
  exact (zMP low x r.head?).append (zHJ low r)
theorem zPO {l:List Ver} {low0 low:Int} (h:zCu l low0) (hl:low<=2305843009213693952):zCu (swp low l) low:=
 zLD (zj (zLR low l) h.len) hl (λx hx=>h.made ((zHJ low l).subset hx)) (h.sorted.sublist (zHJ low l))
theorem zNt {l:List Ver} {low0 low:Int} (h:zCu l low0) (h1:low0<=low) (h2:low<=2305843009213693952):zE9 l low0 low=(swp low l,low,0):=by
 unfold zE9;rw [if_neg (by simp [zKu h]),if_neg (by omega),if_neg (by omega)]
theorem zKX {l m:List Ver} (hl:l.Pairwise vlt) (hm:m.Pairwise vlt) {key:ByteArray} {s t:Int} (h:∀ x:Ver,x.Key=key->((x∈l/\x.At<=s)↔(x∈m/\x.At<=t))):sees l key s=sees m key t:=by
 unfold sees
 congr 1
 refine zIv (hl.sublist List.filter_sublist) (hm.sublist List.filter_sublist) λx=>?_
 rw [List.mem_filter,List.mem_filter]
 simp only [Bool.and_eq_true,decide_eq_true_eq]
 constructor
 ·rintro ⟨h1,h2,h3⟩;have:=(h x h2).1 ⟨h1,h3⟩;exact ⟨this.1,h2,this.2⟩
 ·rintro ⟨h1,h2,h3⟩;have:=(h x h2).2 ⟨h1,h3⟩;exact ⟨this.1,h2,this.2⟩
theorem zOP {l:List Ver} {low0:Int} (hg:zCu l low0) {low ask:Int} (ha:low<=ask) (key:ByteArray):outV (sees (swp low l) key ask)=outV (sees l key ask):=by
 have hs:=hg.sorted
 have hsw:=hs.sublist (zHJ low l)
 cases h:sees l key ask with
 |none=>
  have:sees (swp low l) key ask=none:=zEB.2 λx hx=>zEB.1 h x ((zHJ low l).subset hx)
  rw [this]
 |some x=>
  obtain ⟨h1,h2,h3⟩:=zGo h
  have hmax:=zPo hs h
  by_cases hx:x∈swp low l
  ·rw [zH0 hsw hx h2 h3 λy hy=>hmax y ((zHJ low l).subset hy)]
  ·have hgone:x.Gone=true/\x.At<=low:=Classical.byContradiction λhn=>hx ((zLd hs).2 ⟨h1,λy hy hk hlt=>Int.not_le.1 λhle=>by
    have:=hmax y hy (hk.trans h2) (by omega);omega,hn⟩)
   have:sees (swp low l) key ask=none:=zEB.2 λz hz ⟨hk,hz2⟩=>by
    obtain ⟨z1,z2,z3⟩:=(zLd hs).1 hz
    have hzx:=hmax z z1 hk hz2
    by_cases he:z.At=x.At
    ·have:z=x:=by
      have hmem:∀ p∈l,∀ q∈l,p.Key=q.Key->p.At=q.At->p=q:=λp hp q hq hk ha=>by
       obtain ⟨i,hi⟩:=List.getElem?_of_mem hp
       obtain ⟨j,hj⟩:=List.getElem?_of_mem hq
       rcases Nat.lt_trichotomy i j with hij|hij|hij
       ·rcases zG4 hs hij hi hj with h5|h5
        ·rw [hk] at h5;exact absurd h5 (Zg _)
        ·omega
       ·subst hij;rw [hi] at hj;exact Option.some.inj hj
       ·rcases zG4 hs hij hj hi with h5|h5
        ·rw [hk] at h5;exact absurd h5 (Zg _)
        ·omega
      exact hmem z z1 x h1 (hk.trans h2.symm) he
     subst this;exact hx hz
    ·have:=z2 x h1 (h2.trans hk.symm) (by omega);omega
   rw [this]
   show (noB,false)=(x.Val,!x.Gone)
   rw [hgone.1,(hg.made h1).gone hgone.1];rfl
theorem zHh {l:List Ver} {t:Int} {m:List Wri} {x:Ver}:x∈putL l t m↔x∈l∨∃ w∈m,mk t w=x:=by
 rw [(zJT t m l).mem_iff,List.mem_append,List.mem_map]
theorem zQG {l:List Ver} {low:Int} {m:List Wri} {t:Int} (h:(vput l low m t).2.2=0):pwhy l low m t=0/\vput l low m t=(putL l t m,low,0):=by
 unfold vput at h ⊢
 by_cases h1:pwhy l low m t=0
 ·rw [if_neg (by simp [h1])];exact ⟨h1,rfl⟩
 ·rw [if_pos h1] at h;exact absurd h h1
theorem zQB {t:Int} {w:Wri} (h1:1<=t) (h2:t<=2305843009213693952) (hw:¬ zBk w):Made (mk t w):=by
 have h3:w.Key.size<=256:=Nat.not_lt.1 λh=>hw (.inl h)
 have h4:w.Val.size<=512:=Nat.not_lt.1 λh=>hw (.inr h)
 refine ⟨h1,h2,λhg=>?_,h3,?_⟩
 ·unfold mk at hg ⊢;simp only at hg ⊢;rw [if_pos hg]
 ·unfold mk;simp only;split
  ·decide
  ·exact h4
theorem zIq {l:List Ver} {low:Int} {m:List Wri} {t:Int} (h:pwhy l low m t=0):(putL l t m).Pairwise vlt:=by
 obtain ⟨g1,g2,g3,g4,g5,g6,g7⟩:=zF3.1 h
 exact zHs m l g1.sorted (zGU.1 g2).2.2 λw _ y hy _=>g6 y hy
theorem zOR {l:List Ver} {low:Int} {m:List Wri} {t:Int} (h:pwhy l low m t=0):zCu (putL l t m) low:=by
 obtain ⟨g1,g2,g3,g4,g5,g6,g7⟩:=zF3.1 h
 refine zLD (by rw [zMa];exact g7) g1.low (λx hx=>?_) (zIq h)
 rcases zHh.1 hx with h1|⟨w,h1,rfl⟩
 ·exact g1.made h1
 ·exact zQB g3 g4 ((zGU.1 g2).2.1 w h1)
theorem zN6 {l:List Ver} {low:Int} {m:List Wri} {t ask:Int} (h:pwhy l low m t=0) (ha:t<=ask) {key:ByteArray} (hk:∀ w∈m,w.Key≠key):sees (putL l t m) key ask=sees l key t:=by
 obtain ⟨g1,_,_,_,_,g6,_⟩:=zF3.1 h
 refine zKX (zIq h) g1.sorted λx hxk=>?_
 rw [zHh]
 constructor
 ·rintro ⟨h1|⟨w,h1,rfl⟩,h2⟩
  ·exact ⟨h1,by have:=g6 x h1;omega⟩
  ·exact absurd hxk (hk w h1)
 ·rintro ⟨h1,h2⟩;exact ⟨.inl h1,by omega⟩
theorem zP0 {l:List Ver} {low:Int} {m:List Wri} {t ask:Int} (h:pwhy l low m t=0) (ha:t<=ask) {w:Wri} (hw:w∈m):sees (putL l t m) w.Key ask=some (mk t w):=by
 obtain ⟨g1,_,_,_,_,g6,_⟩:=zF3.1 h
 refine zH0 (zIq h) (zHh.2 (.inr ⟨w,hw,rfl⟩)) rfl ha λy hy _ _=>?_
 rcases zHh.1 hy with h1|⟨v,h1,rfl⟩
 ·have:=g6 y h1;show y.At<=t;omega
 ·exact Int.le_refl _
end Go.Proofs.YtealcoghiaeiiaaGreatDoor.VG
set_option linter.unusedVariables false
namespace Go.Proofs.YtealcoghiaeiiaaGreatDoor.VG
open Go.VB Go.Proofs Go.RowKit
abbrev Spn:=yA
structure Tx where
 began:Int
 reads:List Spn
 wr:ByteArray->Option Wri
structure St where
 l:List Ver
 low:Int
 now:Int
 given:Int
 tx:Int->Option Tx
inductive Role where
 |mg
 |om
 |ve
 |tb (n:Int)
 |wb (n:Int)
 |rb (n:Int)
structure Gh where
 tb:Nat
 wb:Nat
 rs:Sl
abbrev Own:=Nat->Option Role
structure TxAt (ρ:Own) (w:World) (n:Int) (t:Tx) (g:Gh):Prop where
 row:Row w g.tb [.int .u64 t.began,Sl.v g.rs,.map (some g.wb)] zAq
 rtb:ρ g.tb=some (.tb n)
 rd:OwnS yA.cells 3 zJp 0 w g.rs t.reads
 rrd:∀ k,(Sl.v g.rs).ownBlock=some k->ρ k=some (.rb n)
 wr:Zp zY zK.v w g.wb t.wr
 rwb:ρ g.wb=some (.wb n)
structure zCF (ρ:Own) (w:World) (b:Nat) (s:St) (vs:Sl) (mb:Nat) (g:Int->Gh):Prop where
 row:Row w b [Sl.v vs,.int .u64 s.low,.int .u64 s.now,.int .i64 s.given,.map (some mb)] Zh
 rmg:ρ b=some .mg
 vers:zEf w vs s.l
 rve:∀ k,(Sl.v vs).ownBlock=some k->ρ k=some .ve
 mp:Zp (zU .i64) zC w mb (λn=>(s.tx n).map λ_=>some ⟨(g n).tb,0,none⟩)
 rom:ρ mb=some .om
 tx:∀ n t,s.tx n=some t->TxAt ρ w n t (g n)
 lt:∀ k,ρ k≠none->k<w.heap.size
def Mgr (ρ:Own) (w:World) (b:Nat) (s:St):Prop:=∃ vs mb g,zCF ρ w b s vs mb g
structure Ext (ρ:Own) (w:World) (ρ':Own) (w':World):Prop where
 out:Out (λk=>ρ k≠none) w w'
 same:∀ k,k<w.heap.size->ρ' k=ρ k
section
variable {ρ ρ' ρ'':Own} {w w' w'':World} {b:Nat} {s:St} {n:Int} {t:Tx} {g:Gh}
theorem Ext.refl (ρ:Own) (w:World):Ext ρ w ρ w:=⟨Out.refl _ w,λ_ _=>rfl⟩
theorem Ext.bel (h:Bel w w'):Ext ρ w ρ w':=⟨h.out,λ_ _=>rfl⟩
theorem Ext.grown {k:Nat} {r:Role} (h:w.grownBy w' (some k)) (hk:ρ k=some r):Ext ρ w ρ w':=
 ⟨Out.row h λi hi=>by injection hi with hi;subst hi;exact .inl (by rw [hk];simp),λ_ _=>rfl⟩
theorem Ext.trans (h:Ext ρ w ρ' w') (k:Ext ρ' w' ρ'' w''):Ext ρ w ρ'' w'':=
 ⟨h.out.trans k.out λi hi hr=>by rw [h.same i hi] at hr;exact hr,λi hi=>(k.same i (QR hi h.out.size)).trans (h.same i hi)⟩
theorem Ext.base {w0:World} (hb:Bel w0 w) (h:Ext ρ w ρ' w') (hr:∀ k,k<w0.heap.size->ρ k=none):Bel w0 w':=h.out.bel hb λi hi h1=>h1 (hr i hi)
theorem Ext.clear {n0:Nat} (h:Ext ρ w ρ' w') (hn:n0<=w.heap.size) (hr:∀ k,k<n0->ρ k=none):∀ k,k<n0->ρ' k=none:=λk hk=>(h.same k (QR hk hn)).trans (hr k hk)
theorem Ext.blk (h:Ext ρ w ρ' w') {k:Nat} (hk:k<w.heap.size) (hr:ρ k=none):w'.heap[k]?=w.heap[k]?:=h.out.block k hk λh1=>h1 hr
theorem TxAt.lt (h:TxAt ρ w n t g) {k:Nat} {r:Role}:g.tb<w.heap.size:=h.row.lt
theorem TxAt.keep (h:TxAt ρ w n t g) (hlt:∀ k,ρ k≠none->k<w.heap.size) (hρ:∀ k,k<w.heap.size->ρ' k=ρ k) (h1:∀ k,ρ k=some (.tb n)->w'.heap[k]?=w.heap[k]?) (h2:∀ k,ρ k=some (.wb n)->w'.heap[k]?=w.heap[k]?) (h3:∀ k,ρ k=some (.rb n)->w'.heap[k]?=w.heap[k]?):TxAt ρ' w' n t g where
 row:=h.row.keep (h1 _ h.rtb)
 rtb:=(hρ _ (hlt _ (by rw [h.rtb];simp))).trans h.rtb
 rd:=h.rd.keep λk hk=>h3 k (h.rrd k hk)
 rrd k hk:=(hρ _ (hlt _ (by rw [h.rrd k hk];simp))).trans (h.rrd k hk)
 wr:=h.wr.keep (h2 _ h.rwb)
 rwb:=(hρ _ (hlt _ (by rw [h.rwb];simp))).trans h.rwb
theorem zCF.keep {vs:Sl} {mb:Nat} {gh:Int->Gh} (h:zCF ρ w b s vs mb gh) (hs:w.heap.size<=w'.heap.size) (hk:∀ k,ρ k≠none->w'.heap[k]?=w.heap[k]?):zCF ρ w' b s vs mb gh where
 row:=h.row.keep (hk _ (by rw [h.rmg];simp))
 rmg:=h.rmg
 vers:=h.vers.keep λk h1=>hk k (by rw [h.rve k h1];simp)
 rve:=h.rve
 mp:=h.mp.keep (hk _ (by rw [h.rom];simp))
 rom:=h.rom
 tx n t ht:=(h.tx n t ht).keep h.lt (λ_ _=>rfl) (λk h1=>hk k (by rw [h1];simp)) (λk h1=>hk k (by rw [h1];simp)) (λk h1=>hk k (by rw [h1];simp))
 lt k h1:=QR (h.lt k h1) hs
theorem zCF.bel {vs:Sl} {mb:Nat} {gh:Int->Gh} (h:zCF ρ w b s vs mb gh) (hb:Bel w w'):zCF ρ w' b s vs mb gh:=h.keep hb.size λk h1=>hb.block k (h.lt k h1)
theorem zCF.out {S:Nat->Prop} {vs:Sl} {mb:Nat} {gh:Int->Gh} (h:zCF ρ w b s vs mb gh) (hb:Out S w w') (hS:∀ k,S k->ρ k=none):zCF ρ w' b s vs mb gh:=
 h.keep hb.size λk h1=>hb.block k (h.lt k h1) λh2=>h1 (hS k h2)
theorem Mgr.bel (h:Mgr ρ w b s) (hb:Bel w w'):Mgr ρ w' b s:=let ⟨vs,mb,g,m⟩:=h;⟨vs,mb,g,m.bel hb⟩
theorem Mgr.out {S:Nat->Prop} (h:Mgr ρ w b s) (hb:Out S w w') (hS:∀ k,S k->ρ k=none):Mgr ρ w' b s:=let ⟨vs,mb,g,m⟩:=h;⟨vs,mb,g,m.out hb hS⟩
theorem Mgr.lt (h:Mgr ρ w b s):∀ k,ρ k≠none->k<w.heap.size:=let ⟨_,_,_,m⟩:=h;m.lt
end
theorem zLL:zE0 zA ZT (zU .i64):=zE0.int (q:=.i64) (by kernel_rfl)
theorem zJ4 (x y:Int) (h:zU .i64 x=zU .i64 y):x=y:=by injection h
theorem zIN (x y:ByteArray) (h:zY x=zY y):x=y:=by injection h
theorem zKN (x:Option Addr) {w:World} {o1 o2:Operand} {k:Bool->World->Prop} (H:k x.isNone w):opE zA YR (do eqGuard .eql zGs o1 o2 (.pointer x) (.pointer none);binOp .eql zGs (.pointer x) (.pointer none)) w k:=by
 refine ⟨_,w,?_,H⟩
 cases x<;>kernel_rfl
theorem zQN (x:Option Addr) {w:World} {o1 o2:Operand} {k:Bool->World->Prop} (H:k x.isNone w):opE zA YR (do eqGuard .eql zEy o1 o2 (.pointer x) (.pointer none);binOp .eql zEy (.pointer x) (.pointer none)) w k:=by
 refine ⟨_,w,?_,H⟩
 cases x<;>kernel_rfl
end Go.Proofs.YtealcoghiaeiiaaGreatDoor.VG
set_option linter.unusedVariables false
namespace Go.Proofs.YtealcoghiaeiiaaGreatDoor.VG
open Go.VB Go.Proofs Go.RowKit
abbrev ptrA (x:Nat):Option Addr:=some ⟨x,0,none⟩
theorem zSP {κ ν:Type} {ek:κ->Value} {ev:ν->Value} {P:Program} {kt et mt:TypeId} {b:Nat} {f:κ->Option ν} {C:World->Prop} (h:∀ w,C w->Zp ek ev w b f) (K:zE0 P kt ek) (hm:P.underlying mt=some (.map kt et)) {z:ν} (hz:∀ w,(zeroValue et).run P w=.ok (ev z) w) (x:κ) {k:ν->Prop} (H:k ((f x).getD z)):
  opC C P ev (Instr.lookup mt (.map (some b)) (ek x) false) k:=⟨_,λw' hb=>(h w' hb).run_look K hm hz x,H⟩
section
variable {ρ:Own} {w:World} {b:Nat} {s:St} {vs:Sl} {mb:Nat} {g:Int->Gh}
theorem zLu (h:zCF ρ w b s vs mb g) (n:Int) {k:Option Addr->Int->World->Prop} (H0:s.tx n=none->k none 11 w) (H1:∀ t,s.tx n=some t->k (ptrA (g n).tb) 0 w):
  Cl zA zI0 [.pointer (ptrA b),.int .i64 n].toArray w (λe w'=>∃ (r0:Option Addr) (r1:Int),e=.returned (.tuple [.pointer r0,.int .i64 r1].toArray)/\k r0 r1 w'):=by
 refine zJE (ptrA b) n w k ?_
 unfold zFc
 refine zKN _ ⟨λh=>(nomatch h),λ_=>⟨trivial,?_⟩⟩
 refine yO zA6 zBC h.row.at (some mb) rfl ?_
 refine zQ1 h.mp zLL zBB zMG n ?_
 cases ht:s.tx n with
 |none=>exact zQN _ ⟨λ_=>H0 ht,λh=>(nomatch h)⟩
 |some t=>exact zQN _ ⟨λh=>(nomatch h),λ_=>H1 t ht⟩
theorem zQu (h:zCF ρ w b s vs mb g) {k:Int->World->Prop} (H:k s.now w):Cl zA zIj [.pointer (ptrA b)].toArray w (λe w'=>∃ r0:Int,e=.returned (.int .u64 r0)/\k r0 w'):=by
 refine zIp (ptrA b) w k ?_
 unfold zFG
 refine zKN _ ⟨λh=>(nomatch h),λ_=>⟨trivial,?_⟩⟩
 exact yO ZP yE h.row.at s.now rfl H
end
def zHS (s:St):Tx:=⟨s.now,[],λ_=>none⟩
open Classical in
noncomputable def zGf (s:St):St:={s with given:=s.given+1,tx:=upd s.tx (s.given+1) (zHS s)}
def zK6 (ρ:Own) (n:Int) (tb wb:Nat):Own:=λk=>if k=tb then some (.tb n) else if k=wb then some (.wb n) else ρ k
theorem zOx {ρ:Own} {w:World} {b:Nat} {s:St} (h:Mgr ρ w b s) (hg0:0<=s.given) (hg:s.given<4611686018427387904) (hfree:s.tx (s.given+1)=none) {k:Int->Int->World->Prop}
  (H0:∀ ks,Doms s.tx ks->16<=ks.length->k 0 3 w)
  (H1:∀ ks ρ' w',Doms s.tx ks->ks.length<16->Mgr ρ' w' b (zGf s)->Ext ρ w ρ' w'->k (s.given+1) 0 w'):
  Cl zA zFl [.pointer (ptrA b)].toArray w (λe w'=>∃ (r0 r1:Int),e=.returned (.tuple [.int .i64 r0,.int .i64 r1].toArray)/\k r0 r1 w'):=by
 obtain ⟨vs,mb,g,m⟩:=h
 refine zHr (ptrA b) w k ?_
 unfold zEI
 refine zKN _ ⟨λh=>(nomatch h),λ_=>⟨trivial,?_⟩⟩
 refine yO zA6 zBC m.row.at (some mb) rfl ?_
 refine zMl m.mp zJ4 zBB λks hks=>?_
 have hks':Doms s.tx ks:=⟨hks.1,λn=>by
  rw [hks.2]
  show (∃ v,(s.tx n).map (λ_=>(some ⟨(g n).tb,0,none⟩:Option Addr))=some v)↔_
  constructor
  ·rintro ⟨v,hv⟩
   cases ht:s.tx n with
   |none=>rw [ht] at hv;cases hv
   |some t=>exact ⟨t,rfl⟩
  ·rintro ⟨t,ht⟩;rw [ht];exact ⟨_,rfl⟩⟩
 refine ⟨λhc=>H0 ks hks' (by omega),λhc=>⟨trivial,?_⟩⟩
 refine yO zBj zAw m.row.at s.given rfl ⟨trivial,?_⟩
 rw [wr64 (by omega) (by omega)]
 refine ⟨_,w,zBj _ _,?_⟩
 refine zGT zAw m.row rfl (by simp) rfl λw1 hR g1=>?_
 replace hR:Row w1 b [Sl.v vs,.int .u64 s.low,.int .u64 s.now,.int .i64 (s.given+1),.map (some mb)] Zh:=hR
 have hb1:=Ext.grown g1 m.rmg
 have m1:w.heap.size<=w1.heap.size:=g1.size
 refine ⟨λW=>Row W b [Sl.v vs,.int .u64 s.low,.int .u64 s.now,.int .i64 (s.given+1),.map (some mb)] Zh,λw2 b2=>⟨hR.bel b2,trivial,?_⟩⟩
 refine zFa zA6 ⟨trivial,?_⟩
 refine zFa zBj ⟨trivial,?_⟩
 refine zFa ZP ?_
 refine zCk zBC (some mb) (λW hW=>hW.at.fld rfl) ?_
 refine zCk zAw (s.given+1) (λW hW=>hW.at.fld rfl) ?_
 refine zCk yE s.now (λW hW=>hW.at.fld rfl) ?_
 refine zM5 (ek:=zY) (ev:=zK.v) λhM=>?_
 have b3:=Bel.alloc w2 (.map #[] 0)
 generalize hw3:w2.alloc (.map #[] 0)=w3 at hM b3 ⊢
 have s3:w3.heap.size=w2.heap.size+1:=by rw [← hw3];exact size_alloc' _ _
 refine ⟨(hR.bel b2).bel b3,?_⟩
 refine ⟨⟨s.now,Sl.none,some w2.heap.size⟩,λW _=>by kernel_rfl,?_⟩
 refine zJ9 (cs:=[.int .u64 s.now,Sl.v Sl.none,.map (some w2.heap.size)]) rfl ?_
 have hT:Row (w3.alloc (.cells [.int .u64 s.now,Sl.v Sl.none,.map (some w2.heap.size)].toArray zAq)) w3.heap.size [.int .u64 s.now,Sl.v Sl.none,.map (some w2.heap.size)] zAq:=Row.new _ _ _
 have b4:=Bel.alloc w3 (.cells [.int .u64 s.now,Sl.v Sl.none,.map (some w2.heap.size)].toArray zAq)
 generalize hw4:w3.alloc (.cells [.int .u64 s.now,Sl.v Sl.none,.map (some w2.heap.size)].toArray zAq)=w4 at hT b4 ⊢
 have s4:w4.heap.size=w3.heap.size+1:=by rw [← hw4];exact size_alloc' _ _
 have hR4:=((hR.bel b2).bel b3).bel b4
 refine ⟨hR4,?_⟩
 have b24:=(b2.trans b3).trans b4
 have hlt:=m.lt
 have s2:=b2.le
 have hmne:mb≠b:=λe=>by have:=m.rom;rw [e,m.rmg] at this;cases this
 have hmp4:Zp (zU .i64) zC w4 mb (λn=>(s.tx n).map λ_=>some ⟨(g n).tb,0,none⟩):=(m.mp.grown g1 (by simpa using hmne.symm)).bel b24
 refine zOX hmp4 zLL zBB (s.given+1) (ptrA w3.heap.size) λw5 hM5 g5=>?_
 have hR5:=hR4.grown g5 (by simpa using hmne)
 refine ⟨hR5,trivial,?_⟩
 have hE:Ext ρ w ρ w5:=(hb1.trans (Ext.bel b24)).trans (Ext.grown g5 m.rom)
 have s5:=g5.size
 have hlow:∀ k,ρ k≠none->k≠w3.heap.size/\k≠w2.heap.size:=λk hk=>by have:=hlt k hk;omega
 have hρ:∀ k,k<w.heap.size->zK6 ρ (s.given+1) w3.heap.size w2.heap.size k=ρ k:=λk hk=>by
  unfold zK6;rw [if_neg (by omega),if_neg (by omega)]
 have hkeep:∀ k r,ρ k=some r->r≠.mg->r≠.om->w5.heap[k]?=w.heap[k]?:=λk r hk h1 h2=>by
  have hkl:=hlt k (by rw [hk];simp)
  have e1:k≠b:=λe=>by rw [e,m.rmg] at hk;cases hk;exact h1 rfl
  have e2:k≠mb:=λe=>by rw [e,m.rom] at hk;cases hk;exact h2 rfl
  rw [g5.block k (by have:=b24.le;omega) (by simpa using e2),b24.block k (by omega),g1.block k hkl (by simpa using e1)]
 refine yO zBj zAw hR5.at (s.given+1) rfl ?_
 refine H1 ks (zK6 ρ (s.given+1) w3.heap.size w2.heap.size) w5 hks' (by omega) ⟨vs,mb,λn=>if n=s.given+1 then ⟨w3.heap.size,w2.heap.size,Sl.none⟩ else g n,?_⟩ ⟨hE.out,hρ⟩
 exact {
  row:=hR5
  rmg:=(hρ b (hlt b (by rw [m.rmg];simp))).trans m.rmg
  vers:=m.vers.keep λk hk=>hkeep k .ve (m.rve k hk) (by simp) (by simp)
  rve:=λk hk=>(hρ k (hlt k (by rw [m.rve k hk];simp))).trans (m.rve k hk)
  mp:=by
   have:(λn=>((zGf s).tx n).map λ_=>(some ⟨(if n=s.given+1 then ⟨w3.heap.size,w2.heap.size,Sl.none⟩ else g n:Gh).tb,0,none⟩:Option Addr))=upd (λn=>(s.tx n).map λ_=>(some ⟨(g n).tb,0,none⟩:Option Addr)) (s.given+1) (ptrA w3.heap.size):=by
    funext n
    unfold zGf
    by_cases hn:n=s.given+1
    ·subst hn;simp [zAY]
    ·simp [Ze _ _ hn,hn]
   rw [this];exact hM5
  rom:=(hρ mb (hlt mb (by rw [m.rom];simp))).trans m.rom
  tx:=λn t ht=>by
   unfold zGf at ht
   by_cases hn:n=s.given+1
   ·subst hn
    simp only [zAY] at ht
    cases ht
    simp only [if_true]
    have e3:w3.heap.size≠mb:=by have:=hlt mb (by rw [m.rom];simp);omega
    have e2:w2.heap.size≠mb:=by have:=hlt mb (by rw [m.rom];simp);omega
    exact {
     row:=hT.grown g5 (by simpa using e3.symm)
     rtb:=by simp [zK6]
     rd:=OwnS.nil _ _ _ _ _
     rrd:=λk hk=>by cases hk
     wr:=(hM.bel b4).grown g5 (by simpa using e2.symm)
     rwb:=by simp only [zK6];rw [if_neg (by omega),if_pos trivial]}
   ·simp only [Ze _ _ hn] at ht
    simp only [if_neg hn]
    exact (m.tx n t ht).keep hlt hρ (λk hk=>hkeep k _ hk (by simp) (by simp)) (λk hk=>hkeep k _ hk (by simp) (by simp)) (λk hk=>hkeep k _ hk (by simp) (by simp))
  lt:=λk hk=>by
   unfold zK6 at hk
   split at hk
   ·rename_i e;subst e;omega
   ·split at hk
    ·rename_i e;subst e;omega
    ·have:=hlt k hk;have:=b24.le;omega}
end Go.Proofs.YtealcoghiaeiiaaGreatDoor.VG
set_option linter.unusedVariables false
namespace Go.Proofs.YtealcoghiaeiiaaGreatDoor.VG
open Go.VB Go.Proofs Go.RowKit
theorem zMX {κ ν:Type} {ek:κ->Value} {ev:ν->Value} {P:Program} {kt et mt:TypeId} {b:Nat} {f:κ->Option ν} {C:World->Prop} (h:∀ w,C w->Zp ek ev w b f) (K:zE0 P kt ek) (hm:P.underlying mt=some (.map kt et)) {z:ν} (hz:∀ w,(zeroValue et).run P w=.ok (ev z) w) (x:κ) {k:ν × Bool->Prop} (H:k ((f x).getD z,(f x).isSome)):
  opC C P (λp:ν × Bool=>.tuple [ev p.1,.bool p.2].toArray) (Instr.lookup mt (.map (some b)) (ek x) true) k:=⟨_,λw' hb=>(h w' hb).run_lookOk K hm hz x,H⟩
theorem zPU {κ ν:Type} {ek:κ->Value} {ev:ν->Value} {P:Program} {kt et mt:TypeId} {b:Nat} {f:κ->Option ν} {w:World} (h:Zp ek ev w b f) (K:zE0 P kt ek) (hm:P.underlying mt=some (.map kt et)) {z:ν} (hz:∀ w,(zeroValue et).run P w=.ok (ev z) w) (x:κ) {k:ν × Bool->World->Prop} (H:k ((f x).getD z,(f x).isSome) w):
  opE P (λp:ν × Bool=>.tuple [ev p.1,.bool p.2].toArray) (Instr.lookup mt (.map (some b)) (ek x) true) w k:=⟨_,w,h.run_lookOk K hm hz x,H⟩
abbrev zMb:Wri:=⟨noB,noB,false⟩
open Classical in
noncomputable def setTx (s:St) (n:Int) (t:Tx):St:={s with tx:=upd s.tx n t}
open Classical in
theorem zCF.setTx {ρ ρ':Own} {w w':World} {b:Nat} {s:St} {vs:Sl} {mb:Nat} {g:Int->Gh} (h:zCF ρ w b s vs mb g) {n:Int} {t t':Tx} (ht:s.tx n=some t) {g':Gh} (hg:g'.tb=(g n).tb)
  (hρ:∀ k,k<w.heap.size->ρ' k=ρ k) (hlt:∀ k,ρ' k≠none->k<w'.heap.size) (hk:∀ k r,ρ k=some r->r≠.tb n->r≠.wb n->r≠.rb n->w'.heap[k]?=w.heap[k]?) (ht':TxAt ρ' w' n t' g'):
  zCF ρ' w' b (setTx s n t') vs mb (λm=>if m=n then g' else g m) where
 row:=h.row.keep (hk b _ h.rmg (by simp) (by simp) (by simp))
 rmg:=(hρ b (h.lt b (by rw [h.rmg];simp))).trans h.rmg
 vers:=h.vers.keep λk h1=>hk k _ (h.rve k h1) (by simp) (by simp) (by simp)
 rve k h1:=(hρ k (h.lt k (by rw [h.rve k h1];simp))).trans (h.rve k h1)
 mp:=by
  have:(λm=>((VG.setTx s n t').tx m).map λ_=>(some ⟨(if m=n then g' else g m:Gh).tb,0,none⟩:Option Addr))=(λm=>(s.tx m).map λ_=>(some ⟨(g m).tb,0,none⟩:Option Addr)):=by
   funext m
   unfold VG.setTx
   by_cases hm:m=n
   ·subst hm;simp [zAY,ht,hg]
   ·simp [Ze _ _ hm,hm]
  rw [this]
  exact h.mp.keep (hk mb _ h.rom (by simp) (by simp) (by simp))
 rom:=(hρ mb (h.lt mb (by rw [h.rom];simp))).trans h.rom
 tx m u hu:=by
  by_cases hm:m=n
  ·subst hm
   simp only [VG.setTx,zAY] at hu;cases hu
   simp only [if_true];exact ht'
  ·simp only [VG.setTx,Ze _ _ hm] at hu
   simp only [if_neg hm]
   exact (h.tx m u hu).keep h.lt hρ (λk h1=>hk k _ h1 (by simp [hm]) (by simp) (by simp)) (λk h1=>hk k _ h1 (by simp) (by simp [hm]) (by simp)) (λk h1=>hk k _ h1 (by simp) (by simp) (by simp [hm]))
 lt:=hlt
noncomputable def putW (t:Tx) (x:Wri):Tx:={t with wr:=upd t.wr x.Key x}
theorem zO3 {ρ:Own} {w:World} {b:Nat} {s:St} (h:Mgr ρ w b s) (n:Int) (x:Wri) {k:Int->World->Prop}
  (H0:s.tx n=none->∀ w',Bel w w'->k 11 w')
  (H1:∀ t,s.tx n=some t->zBk x->∀ w',Bel w w'->k 4 w')
  (H2:∀ t ks,s.tx n=some t->¬ zBk x->t.wr x.Key=none->Doms t.wr ks->256<=ks.length->∀ w',Bel w w'->k 3 w')
  (H3:∀ t w',s.tx n=some t->¬ zBk x->(t.wr x.Key=none->∃ ks,Doms t.wr ks/\ks.length<256)->Mgr ρ w' b (setTx s n (putW t x))->Ext ρ w ρ w'->k 0 w'):
  Cl zA zB4 [.pointer (ptrA b),.int .i64 n,zK.v x].toArray w (λe w'=>∃ r0:Int,e=.returned (.int .i64 r0)/\k r0 w'):=by
 obtain ⟨vs,mb,g,m⟩:=h
 refine zHq (ptrA b) n x w k ?_
 unfold zEQ
 refine zAi (cs:=x.cells) rfl λB w1 b1 hX hB=>?_
 refine zLu (m.bel b1) n (λht=>⟨λ_=>H0 ht w1 b1,λh=>absurd (by decide) h⟩) λt ht=>⟨λh=>absurd rfl h,λ_=>?_⟩
 have mt:=m.tx n t ht
 have hrow:=mt.row.bel b1
 have hwr:=mt.wr.bel b1
 refine ⟨Bel w1,λu bu=>⟨bu,trivial,?_⟩⟩
 refine zFa zAG ?_
 refine zFa xf ?_
 refine zCk Qd (some (g n).wb) (λW hW=>(hrow.bel hW).at.fld rfl) ?_
 refine zCk zn x.Key (λW hW=>(hX.bel hW).at.fld rfl) ?_
 refine zMX (z:=zMb) (λW hW=>hwr.bel hW) zIJ YS zG3 x.Key ?_
 refine zD6 zA5 λC w2 b2 hZ hC=>?_
 refine ⟨bu.trans b2,?_⟩
 refine zIF Q7 hZ rfl rfl rfl λw3 hZ3 g3=>?_
 have b13:Bel w1 w3:=(bu.trans b2).grown g3 λr hr=>by cases hr;have:=bu.le;omega
 refine ⟨b13,?_⟩
 have hX3:=hX.bel b13
 refine yO xf zn hX3.at x.Key rfl ?_
 have b03:=b1.trans b13
 have J3:∀ W (c:Bool),Bel w W->Row W B x.cells zCW->¬ zBk x->(c=true->∃ ks,t.wr x.Key=none/\Doms t.wr ks/\256<=ks.length)->(c=false->t.wr x.Key=none->∃ ks,Doms t.wr ks/\ks.length<256)->Zx k (ptrA B) (ptrA (g n).tb) c W:=by
  intro W c hb hXW hl hc1 hc0
  unfold Zx
  refine ⟨λhc=>?_,λhc=>?_⟩
  ·obtain ⟨ks,h1,h2,h3⟩:=hc1 hc
   exact H2 t ks ht hl h1 h2 h3 W hb
  ·refine ⟨λW'=>Row W' (g n).tb [.int .u64 t.began,Sl.v (g n).rs,.map (some (g n).wb)] zAq/\Row W' B x.cells zCW,λu bu2=>?_⟩
   have hbu:=hb.trans bu2
   have hT:=mt.row.bel hbu
   refine ⟨⟨hT,hXW.bel bu2⟩,trivial,?_⟩
   refine zFa zAG ?_
   refine zFa xf ?_
   refine zCk Qd (some (g n).wb) (λW hW=>hW.1.at.fld rfl) ?_
   refine zCk zn x.Key (λW hW=>hW.2.at.fld rfl) ?_
   refine zNG Q7 x rfl (λW hW=>hW.2.at) rfl ?_
   refine zOX (mt.wr.bel hbu) zIJ YS x.Key x λw5 hM5 g5=>?_
   have htw:(g n).tb≠(g n).wb:=λe=>by have:=mt.rtb;rw [e,mt.rwb] at this;cases this
   have hltw:=m.lt (g n).wb (by rw [mt.rwb];simp)
   have hBw:B≠(g n).wb:=by omega
   have hT5:=hT.grown g5 (by simpa using htw.symm)
   refine ⟨⟨hT5,(hXW.bel bu2).grown g5 (by simpa using hBw.symm)⟩,?_⟩
   have hE:=(Ext.bel hbu).trans (Ext.grown g5 mt.rwb)
   have hkeep:∀ k,ρ k≠none->k≠(g n).wb->w5.heap[k]?=w.heap[k]?:=λk hk hne=>by
    have:=m.lt k hk
    rw [g5.block k (by have:=hbu.le;omega) (by simpa using hne),hbu.block k this]
   refine H3 t w5 ht hl (hc0 hc) ⟨vs,mb,_,m.setTx ht (g':=g n) rfl (λ_ _=>rfl) (λk hk=>by have:=m.lt k hk;have:=hE.out.size;omega) (λk r hk h1 h2 h3=>hkeep k (by rw [hk];simp) λe=>?_) ?_⟩ hE
   ·rw [e,mt.rwb] at hk;cases hk;exact h2 rfl
   ·exact {
     row:=hT5
     rtb:=mt.rtb
     rd:=mt.rd.keep λk hk=>hkeep k (by rw [mt.rrd k hk];simp) λe=>by have:=mt.rrd k hk;rw [e,mt.rwb] at this;cases this
     rrd:=mt.rrd
     wr:=hM5
     rwb:=mt.rwb}
 have J2:∀ W (c:Bool),Bel w W->Row W B x.cells zCW->(c=true↔zBk x)->Zt k (ptrA B) (ptrA (g n).tb) ((t.wr x.Key).getD zMb,(t.wr x.Key).isSome) c W:=by
  intro W c hb hXW hc
  unfold Zt
  refine ⟨λh1=>H1 t ht (hc.1 h1) W hb,λh1=>?_⟩
  have hl:¬ zBk x:=λh2=>by rw [hc.2 h2] at h1;cases h1
  refine ⟨λh2=>⟨trivial,?_⟩,λh2=>?_⟩
  ·have hno:t.wr x.Key=none:=by
    cases hx:t.wr x.Key with
    |none=>rfl
    |some y=>rw [hx] at h2;simp at h2
   refine yO zAG Qd (mt.row.bel hb).at (some (g n).wb) rfl ?_
   refine zMl (mt.wr.bel hb) zIN YS λks hks=>?_
   refine J3 W _ hb hXW hl (λh3=>⟨ks,hno,hks,by have:=of_decide_eq_true h3;omega⟩) λh3 _=>⟨ks,hks,by have:=of_decide_eq_false h3;omega⟩
  ·refine J3 W false hb hXW hl (λh=>(nomatch h)) λ_ hno=>?_
   rw [hno] at h2;simp at h2
 refine ⟨λhc=>J2 w3 true b03 hX3 ⟨λ_=>.inl (by omega),λ_=>rfl⟩,λhc=>?_⟩
 refine yO zAe zn hX3.at x.Val rfl ?_
 refine J2 w3 _ b03 hX3 ?_
 unfold zBk
 simp only [decide_eq_true_eq]
 omega
section
variable {ρ:Own} {w:World} {b:Nat} {s:St}
theorem zRA (n:Int) (key val:ByteArray) {p:Option Addr} {k:Int->World->Prop} (H:Cl zA zB4 [.pointer p,.int .i64 n,zK.v ⟨key,val,false⟩].toArray w (λe w'=>∃ r0:Int,e=.returned (.int .i64 r0)/\k r0 w')):
  Cl zA zF8 [.pointer p,.int .i64 n,.string key,.string val].toArray w (λe w'=>∃ r0:Int,e=.returned (.int .i64 r0)/\k r0 w'):=by
 refine zIg p n key val w k ?_
 unfold zFC
 exact ⟨⟨key,val,false⟩,w,by kernel_rfl,H⟩
theorem zNx (n:Int) (key:ByteArray) {p:Option Addr} {k:Int->World->Prop} (H:Cl zA zB4 [.pointer p,.int .i64 n,zK.v ⟨key,noB,true⟩].toArray w (λe w'=>∃ r0:Int,e=.returned (.int .i64 r0)/\k r0 w')):
  Cl zA zFR [.pointer p,.int .i64 n,.string key].toArray w (λe w'=>∃ r0:Int,e=.returned (.int .i64 r0)/\k r0 w'):=by
 refine zHZ p n key w k ?_
 unfold zDd
 exact ⟨⟨key,noB,true⟩,w,by kernel_rfl,H⟩
end
end Go.Proofs.YtealcoghiaeiiaaGreatDoor.VG
set_option linter.unusedVariables false
namespace Go.Proofs.YtealcoghiaeiiaaGreatDoor.VG
open Go.VB Go.Proofs Go.RowKit
def addR (t:Tx) (x:Spn):Tx:={t with reads:=t.reads++[x]}
theorem zN8 {ρ:Own} {w:World} {b:Nat} {s:St} {vs:Sl} {mb:Nat} {g:Int->Gh} (m:zCF ρ w b s vs mb g) {n:Int} {t:Tx} (ht:s.tx n=some t) (hroom:t.reads.length<1000) (x:Spn) {k:World->Prop}
  (H:∀ ρ' w' g',(g' n).tb=(g n).tb->(g' n).wb=(g n).wb->zCF ρ' w' b (setTx s n (addR t x)) vs mb g'->Ext ρ w ρ' w'->k w'):
  opE zA Sl.v (zl zEU 1 [(0,yA.v x)].toArray) w (λy w=>opE zA Sl.v (Builtin.append_ #[zEU,zEU] zEU [Sl.v (g n).rs,Sl.v y].toArray) w (λz w=>
   QL (.pointer (ptrA (g n).tb))/\opE zA zC (zN zAq (.pointer (ptrA (g n).tb)) 1) w (λq w=>opU zA (zI zEU (.pointer q) (Sl.v z)) w k))):=by
 have mt:=m.tx n t ht
 refine zNp mt.rd (λ_=>rfl) (λ_=>rfl) (by decide) zGK zHN rfl (by decide) (zHw x) (Nat.zero_le _) (by omega) λz w1 hO g1 hq=>⟨trivial,?_⟩
 have hrow1:Row w1 (g n).tb [.int .u64 t.began,Sl.v (g n).rs,.map (some (g n).wb)] zAq:=mt.row.grown g1 λe=>by
  have:=mt.rrd _ e;rw [mt.rtb] at this;cases this
 refine ⟨_,w1,zAz _ _,?_⟩
 refine zGT zBc hrow1 (by cases z with|mk a l c=>cases a<;>rfl) (by simp) (by cases z with|mk a l c=>cases a<;>rfl) λw2 hR g2=>?_
 replace hR:Row w2 (g n).tb [.int .u64 t.began,Sl.v z,.map (some (g n).wb)] zAq:=hR
 have hzt:(Sl.v z).ownBlock≠some (g n).tb:=OwnS.ne_row hO hrow1 (by decide)
 have hO2:=hO.kept g2 (.inr hzt)
 let ρ':Own:=λk=>if (Sl.v z).ownBlock=some k then some (.rb n) else ρ k
 have hρ:∀ k,k<w.heap.size->ρ' k=ρ k:=λk hk=>by
  show (if (Sl.v z).ownBlock=some k then _ else _)=_
  split
  ·rename_i e
   rcases hq k e with h1|h1
   ·exact (mt.rrd k h1).symm
   ·omega
  ·rfl
 have hs1:=g1.size
 have hs2:=g2.size
 have hkeep:∀ k r,ρ k=some r->r≠.tb n->r≠.rb n->w2.heap[k]?=w.heap[k]?:=λk r hk h1 h2=>by
  have hkl:=m.lt k (by rw [hk];simp)
  rw [g2.block k (by omega) λe=>by injection e with e;rw [e,mt.rtb] at hk;cases hk;exact h1 rfl,g1.block k hkl λe=>by
   have:=mt.rrd k e.symm;rw [hk] at this;cases this;exact h2 rfl]
 have hE:Ext ρ w ρ' w2:=⟨(Out.row (S:=λk=>ρ k≠none) g1 λk hk=>.inl (by show ρ k≠none;rw [mt.rrd k hk];simp)).trans (Out.row (S:=λk=>ρ k≠none) g2 λk hk=>by cases hk;exact .inl (by show ρ _≠none;rw [mt.rtb];simp)) λ_ _ h=>h,hρ⟩
 refine H ρ' w2 (λm=>if m=n then ⟨(g n).tb,(g n).wb,z⟩ else g m) (by simp) (by simp) (m.setTx ht rfl hρ (λk hk=>?_) (λk r hk h1 h2 h3=>hkeep k r hk h1 h3) ?_) hE
 ·by_cases e:(Sl.v z).ownBlock=some k
  ·exact hO2.lt e
  ·have:ρ k≠none:=by
    have h1:(if (Sl.v z).ownBlock=some k then some (Role.rb n) else ρ k)≠none:=hk
    rw [if_neg e] at h1;exact h1
   have:=m.lt k this;omega
 ·exact {
   row:=hR
   rtb:=(hρ _ (m.lt _ (by rw [mt.rtb];simp))).trans mt.rtb
   rd:=hO2
   rrd:=λk hk=>by show (if (Sl.v z).ownBlock=some k then _ else _)=_;rw [if_pos hk]
   wr:=mt.wr.keep (hkeep _ _ mt.rwb (by simp) (by simp))
   rwb:=(hρ _ (m.lt _ (by rw [mt.rwb];simp))).trans mt.rwb}
noncomputable def tget (s:St) (t:Tx) (key:ByteArray):ByteArray × Bool × Int:=match t.wr key with
 |some x=>(x.Val,!x.Gone,0)
 |none=>vget s.l s.low key t.began
abbrev zKQ (key:ByteArray):Spn:=⟨key,noB,true⟩
theorem zQs {ρ:Own} {w:World} {b:Nat} {s:St} (h:Mgr ρ w b s) (n:Int) (key:ByteArray) {k:ByteArray->Bool->Int->World->Prop}
  (H0:s.tx n=none->k noB false 11 w)
  (H1:∀ t,s.tx n=some t->256<key.size->k noB false 4 w)
  (H2:∀ t,s.tx n=some t->¬ 256<key.size->256<=t.reads.length->k noB false 3 w)
  (H3:∀ t ρ' w',s.tx n=some t->¬ 256<key.size->t.reads.length<256->Mgr ρ' w' b (setTx s n (addR t (zKQ key)))->Ext ρ w ρ' w'->k (tget s t key).1 (tget s t key).2.1 (tget s t key).2.2 w'):
  Cl zA zGD [.pointer (ptrA b),.int .i64 n,.string key].toArray w (λe w'=>∃ (r0:ByteArray) (r1:Bool) (r2:Int),e=.returned (.tuple [.string r0,.bool r1,.int .i64 r2].toArray)/\k r0 r1 r2 w'):=by
 obtain ⟨vs,mb,g,m⟩:=h
 refine zIo (ptrA b) n key w k ?_
 unfold zFO
 refine zLu m n (λht=>⟨λ_=>H0 ht,λh=>absurd (by decide) h⟩) λt ht=>⟨λh=>absurd rfl h,λ_=>⟨λhl=>H1 t ht (by omega),λhl=>⟨trivial,?_⟩⟩⟩
 have mt:=m.tx n t ht
 have hrl:=mt.rd.len
 refine yO zAz zBc mt.row.at (g n).rs rfl ?_
 refine ⟨λhc=>H2 t ht (by omega) (by omega),λhc=>⟨trivial,?_⟩⟩
 refine yO zAz zBc mt.row.at (g n).rs rfl ?_
 refine ⟨zKQ key,w,by kernel_rfl,?_⟩
 refine zN8 m ht (by omega) (zKQ key) λρ' w1 g' eg ew m1 hE=>⟨trivial,?_⟩
 have ht1:(setTx s n (addR t (zKQ key))).tx n=some (addR t (zKQ key)):=by simp [setTx,zAY]
 have mt1:=m1.tx n _ ht1
 have fin:∀ W,Bel w1 W->k (tget s t key).1 (tget s t key).2.1 (tget s t key).2.2 W:=λW hW=>H3 t ρ' W ht (by omega) (by omega) ⟨vs,mb,g',m1.bel hW⟩ (hE.trans (Ext.bel hW))
 have hT1:Row w1 (g n).tb [.int .u64 t.began,Sl.v (g' n).rs,.map (some (g n).wb)] zAq:=by have:=mt1.row;rw [eg,ew] at this;exact this
 have hM1:Zp zY zK.v w1 (g n).wb t.wr:=by have:=mt1.wr;rw [ew] at this;exact this
 refine yO zAG Qd hT1.at (some (g n).wb) rfl ?_
 refine zPU (z:=zMb) hM1 zIJ YS zG3 key ?_
 refine zBo zA5 rfl Q7 (cs:=((t.wr key).getD zMb).cells) rfl rfl rfl λC w2 b2 hX _=>?_
 refine ⟨λhi=>?_,λhi=>⟨trivial,?_⟩⟩
 ·obtain ⟨x,hx⟩:=Option.isSome_iff_exists.1 hi
  have hv:tget s t key=(x.Val,!x.Gone,0):=by unfold tget;rw [hx]
  rw [hx] at hX
  refine zGF zAe zn hX.at x.Val rfl ?_
  refine zGF zBd zDa hX.at x.Gone rfl ?_
  intro w3 b3
  have:=fin w3 (b2.trans b3)
  rw [hv] at this;exact this
 ·have hno:t.wr key=none:=by
   cases hx:t.wr key with
   |none=>rfl
   |some y=>rw [hx] at hi;simp at hi
  have hv:tget s t key=vget s.l s.low key t.began:=by unfold tget;rw [hno]
  have m2:=m1.bel b2
  refine ⟨_,λW hW=>yX _ _,?_⟩
  refine zI6 z8 (cs:=[Sl.v vs,.int .u64 s.low]) ⟨vs,s.low⟩ rfl (λj v hj=>by
   have h1:=m2.row.at
   rw [zFM]
   refine h1 (0+j) v ?_
   match j,hj with
   |0,hj=>exact hj
   |1,hj=>exact hj) rfl ⟨trivial,?_⟩
  refine zGF zDy yE (hT1.bel b2).at t.began rfl ?_
  refine ⟨(vget s.l s.low key t.began).1,(vget s.l s.low key t.began).2.1,(vget s.l s.low key t.began).2.2,λW hW=>?_,?_⟩
  ·refine (zQD (x0:=⟨vs,s.low⟩) (m2.vers.bel hW) key t.began (k:=λa c d w'=>a=(vget s.l s.low key t.began).1/\c=(vget s.l s.low key t.began).2.1/\d=(vget s.l s.low key t.began).2.2/\Bel W w') λw' hb=>⟨rfl,rfl,rfl,hb⟩).mono λe w' ⟨a,c,d,he,h1,h2,h3,h4⟩=>?_
   subst h1;subst h2;subst h3
   exact ⟨he,h4⟩
  ·intro w3 b3
   have:=fin w3 (b2.trans b3)
   rw [hv] at this;exact this
end Go.Proofs.YtealcoghiaeiiaaGreatDoor.VG
set_option linter.unusedVariables false
namespace Go.Proofs.YtealcoghiaeiiaaGreatDoor.VG
open Go.VB Go.Proofs Go.RowKit
theorem zGN {α:Type}:∀ {l m:List α},l.Nodup->(∀ x∈l,x∈m)->l.length<=m.length:=by
 intro l m hl h
 classical
 induction l generalizing m with
 |nil=>simp
 |cons a l ih=>
  obtain ⟨h1,h2⟩:=List.nodup_cons.1 hl
  have ha:a∈m:=h a (by simp)
  have:=ih (m:=m.erase a) h2 λx hx=>(List.mem_erase_of_ne (λe=>h1 (by rw [← e];exact hx))).2 (h x (by simp [hx]))
  rw [List.length_erase_of_mem ha] at this
  have:0<m.length:=List.length_pos_of_mem ha
  simp only [List.length_cons];omega
noncomputable def delTx (s:St) (n:Int):St:={s with tx:=del s.tx n}
structure zGt (s:St) (lo:Int):Prop where
 now:lo<=s.now
 all:∀ n t,s.tx n=some t->lo<=t.began
 hit:lo=s.now∨∃ n t,s.tx n=some t/\lo=t.began
theorem zGt.le {s:St} {a c:Int} (h:zGt s a) (k:zGt s c):a<=c:=by
 rcases k.hit with e|⟨n,t,h1,e⟩
 ·rw [e];exact h.now
 ·rw [e];exact h.all n t h1
theorem zGt.one {s:St} {a c:Int} (h:zGt s a) (k:zGt s c):a=c:=Int.le_antisymm (h.le k) (k.le h)
open Classical in
noncomputable def zK4 (s:St):Int:=if h:∃ lo,zGt s lo then h.choose else 0
theorem zGt.eq {s:St} {lo:Int} (h:zGt s lo):lo=zK4 s:=by
 have:∃ lo,zGt s lo:=⟨lo,h⟩
 unfold zK4;rw [dif_pos this]
 exact h.one this.choose_spec
noncomputable def zK3 (s:St):St:=if (zE9 s.l s.low (zK4 s)).2.2=0 then {s with l:=(zE9 s.l s.low (zK4 s)).1,low:=(zE9 s.l s.low (zK4 s)).2.1} else s
noncomputable def zBD (s:St) (n:Int):St:=zK3 (delTx s n)
section
variable {ρ:Own} {w w':World} {b:Nat} {s:St} {vs:Sl} {mb:Nat} {g:Int->Gh}
theorem zCF.versAt (m:zCF ρ w b s vs mb g):At w ((⟨b,0,none⟩:Addr).add 0) [Sl.v vs,.int .u64 s.low]:=λj v hj=>by
 have h1:=m.row.at
 rw [zFM]
 refine h1 (0+j) v ?_
 match j,hj with
 |0,hj=>exact hj
 |1,hj=>exact hj
theorem zCF.delTx (m:zCF ρ w b s vs mb g) (n:Int) (hM:Zp (zU .i64) zC w' mb (del (λn=>(s.tx n).map λ_=>(some ⟨(g n).tb,0,none⟩:Option Addr)) n)) (hg:w.grownBy w' (some mb)):zCF ρ w' b (delTx s n) vs mb g:=by
 have hkeep:∀ k r,ρ k=some r->r≠.om->w'.heap[k]?=w.heap[k]?:=λk r hk h1=>hg.block k (m.lt k (by rw [hk];simp)) λe=>by injection e with e;rw [e,m.rom] at hk;cases hk;exact h1 rfl
 exact {
  row:=m.row.keep (hkeep _ _ m.rmg (by simp))
  rmg:=m.rmg
  vers:=m.vers.keep λk hk=>hkeep k _ (m.rve k hk) (by simp)
  rve:=m.rve
  mp:=by
   have:(λk=>((VG.delTx s n).tx k).map λ_=>(some ⟨(g k).tb,0,none⟩:Option Addr))=del (λn=>(s.tx n).map λ_=>(some ⟨(g n).tb,0,none⟩:Option Addr)) n:=by
    funext k
    unfold VG.delTx
    by_cases hk:k=n
    ·subst hk;simp [zF9]
    ·simp [zDv _ hk]
   rw [this];exact hM
  rom:=m.rom
  tx:=λk t ht=>by
   have hk:k≠n:=λe=>by subst e;simp [VG.delTx,zF9] at ht
   have ht':s.tx k=some t:=by simpa [VG.delTx,zDv _ hk] using ht
   exact (m.tx k t ht').keep m.lt (λ_ _=>rfl) (λj h1=>hkeep j _ h1 (by simp)) (λj h1=>hkeep j _ h1 (by simp)) (λj h1=>hkeep j _ h1 (by simp))
  lt:=λk hk=>QR (m.lt k hk) hg.size}
theorem zCF.setVers (m:zCF ρ w b s vs mb g) {r:Sl} {l:List Ver} {low now:Int} (hr:zEf w r l) (hnew:∀ k,(Sl.v r).ownBlock=some k->k<w.heap.size/\ρ k=none) (hg:w.grownBy w' (some b))
  (hR:Row w' b [Sl.v r,.int .u64 low,.int .u64 now,.int .i64 s.given,.map (some mb)] Zh):
  zCF (λk=>if (Sl.v r).ownBlock=some k then some .ve else ρ k) w' b {s with l:=l,low:=low,now:=now} r mb g:=by
 have hsz:=hg.size
 have hold:∀ k r',ρ k=some r'->(if (Sl.v r).ownBlock=some k then some Role.ve else ρ k)=some r':=λk r' hk=>by
  split
  ·rename_i e;rw [(hnew k e).2] at hk;cases hk
  ·exact hk
 have hkeep:∀ k r,ρ k=some r->r≠.mg->w'.heap[k]?=w.heap[k]?:=λk r hk h1=>hg.block k (m.lt k (by rw [hk];simp)) λe=>by injection e with e;rw [e,m.rmg] at hk;cases hk;exact h1 rfl
 exact {
  row:=hR
  rmg:=hold _ _ m.rmg
  vers:=hr.keep λk hk=>hg.block k (hnew k hk).1 λe=>by injection e with e;have:=(hnew k hk).2;rw [e,m.rmg] at this;cases this
  rve:=λk hk=>if_pos hk
  mp:=m.mp.keep (hkeep _ _ m.rom (by simp))
  rom:=hold _ _ m.rom
  tx:=λk t ht=>by
   have h:=m.tx k t ht
   exact {
    row:=h.row.keep (hkeep _ _ h.rtb (by simp))
    rtb:=hold _ _ h.rtb
    rd:=h.rd.keep λj hj=>hkeep j _ (h.rrd j hj) (by simp)
    rrd:=λj hj=>hold _ _ (h.rrd j hj)
    wr:=h.wr.keep (hkeep _ _ h.rwb (by simp))
    rwb:=hold _ _ h.rwb}
  lt:=λk hk=>by
   by_cases e:(Sl.v r).ownBlock=some k
   ·have:=(hnew k e).1;omega
   ·have h1:(if (Sl.v r).ownBlock=some k then some Role.ve else ρ k)≠none:=hk
    rw [if_neg e] at h1
    have:=m.lt k h1;omega}
theorem zO9 (h:Mgr ρ w b s) (n:Int) {Ret:World->Prop} (H:∀ ρ' w',Mgr ρ' w' b (zBD s n)->Ext ρ w ρ' w'->Ret w'):zA0 (ptrA b) n w Ret:=by
 obtain ⟨vs,mb,g,m⟩:=h
 unfold zA0
 refine ⟨trivial,?_⟩
 refine yO zA6 zBC m.row.at (some mb) rfl ?_
 refine zRS m.mp zLL zBB n λw1 hM g1=>?_
 have m1:=m.delTx n hM g1
 have hE1:Ext ρ w ρ w1:=Ext.grown g1 m.rom
 unfold zBD at H
 generalize VG.delTx s n=s1 at m1 H
 refine ⟨trivial,?_⟩
 refine yO ZP yE m1.row.at s1.now rfl ⟨trivial,?_⟩
 refine yO zA6 zBC m1.row.at (some mb) rfl ?_
 obtain ⟨es,c,mAt⟩:=m1.mp
 obtain ⟨dom,hdom,_⟩:=mAt.doms zJ4
 clear mAt
 refine zPK m1.mp zBB λw2 hi b2=>?_
 have hmb:mb<w1.heap.size:=m1.mp.lt
 generalize hR:w1.heap.size=R at hi hmb ⊢
 refine ⟨λx W=>∃ ks,zAn (zU .i64) zC W mb R (λn=>(s1.tx n).map λ_=>some ⟨(g n).tb,0,none⟩) ks/\Bel w1 W/\x<=s1.now/\(∀ k∈ks,∀ t,s1.tx k=some t->x<=t.began)/\(x=s1.now∨∃ k t,k∈ks/\s1.tx k=some t/\x=t.began),λ_ W=>dom.length - zG8 W R,⟨[],hi,b2,Int.le_refl _,by simp,.inl rfl⟩,?_⟩
 rintro x W ⟨ks,hi1,hb1,hx1,hx2,hx3⟩
 unfold Zv
 refine zMk hi1 (by omega) zJ4 (λhall=>?_) λy v W2 hy hn hi2 hg=>?_
 ·refine ⟨λ_=>⟨trivial,?_⟩,λk v e=>by cases e⟩
  have hlow:x=zK4 s1:=zGt.eq ⟨hx1,λk t ht=>hx2 k (hall k (some ⟨(g k).tb,0,none⟩) (by rw [ht];rfl)) t ht,by
   rcases hx3 with h|⟨k,t,_,h1,h2⟩
   ·exact .inl h
   ·exact .inr ⟨k,t,h1,h2⟩⟩
  have mW:=m1.bel hb1
  have hEW:=hE1.trans (Ext.bel hb1)
  refine ⟨_,W,yX _ _,?_⟩
  refine zAs z8 (cs:=[Sl.v vs,.int .u64 s1.low]) ⟨vs,s1.low⟩ rfl mW.versAt rfl ?_
  refine zNu (x0:=⟨vs,s1.low⟩) mW.vers x λr W3 base h1 hO b3=>?_
  refine zBo Zy rfl z8 (cs:=[Sl.v r,.int .u64 (zE9 s1.l s1.low x).2.1]) rfl (by cases r with|mk a l c=>cases a<;>rfl) rfl λC W4 b4 hX _=>?_
  have m4:=(mW.bel b3).bel b4
  have hE4:=hEW.trans (Ext.bel (b3.trans b4))
  unfold zK3 at H
  rw [← hlow] at H
  refine ⟨λhz=>?_,λhz=>?_⟩
  ·rw [if_pos hz] at H
   refine zAs z8 (cs:=[Sl.v r,.int .u64 (zE9 s1.l s1.low x).2.1]) ⟨r,(zE9 s1.l s1.low x).2.1⟩ rfl hX.at rfl ⟨trivial,?_⟩
   refine ⟨_,W4,yX _ _,?_⟩
   refine zQI z8 (vs:=[Sl.v r,.int .u64 (zE9 s1.l s1.low x).2.1]) (off:=0) m4.row rfl (by simp) (by cases r with|mk a l c=>cases a<;>rfl) λW5 hR5 g5=>?_
   have hO4:=hO.bel b4
   have hnew:∀ k,(Sl.v r).ownBlock=some k->k<W4.heap.size/\ρ k=none:=λk hk=>by
    refine ⟨hO4.lt hk,?_⟩
    have h2:=hO.lo hk
    cases hρ:ρ k with
    |none=>rfl
    |some r0=>
     have h3:=m.lt k (by rw [hρ];simp)
     have h4:=hEW.out.size
     omega
   have m5:=m4.setVers (Y9.rd hO4) hnew g5 hR5
   refine H _ W5 ⟨_,_,_,m5⟩ ⟨hE4.out.trans (Out.row (S:=λk=>ρ k≠none) g5 λk hk=>by cases hk;exact .inl (by show ρ _≠none;rw [m.rmg];simp)) λ_ _ h=>h,λk hk=>if_neg λe=>?_⟩
   have h2:=hO.lo e
   have h4:=hEW.out.size
   omega
  ·rw [if_neg hz] at H
   exact H ρ W4 ⟨_,_,_,m4⟩ hE4
 ·refine ⟨λe=>(nomatch e),λk v' e=>?_⟩
  cases e
  have hb2:Bel w1 W2:=hb1.grown hg λr e=>by cases e;omega
  cases ht:s1.tx y with
  |none=>rw [ht] at hy;cases hy
  |some t=>
   have hv:v=ptrA (g y).tb:=by rw [ht] at hy;simpa using hy.symm
   subst hv
   have hcl:(ks++[y]).length<=dom.length:=zGN hi2.nd λz hz=>(hdom.2 z).2 (hi2.dom z hz)
   rw [yB,List.length_singleton] at hcl
   have hl1:=hi1.size
   have hl2:=hi2.size
   rw [yB,List.length_singleton] at hl2
   refine zH2 hi2 hy zJ4 ⟨trivial,?_⟩
   refine yO zDy yE ((m1.bel hb2).tx y t ht).row.at t.began rfl ?_
   refine ⟨⟨ks++[y],hi2,hb2,?_,λk hk u hu=>?_,?_⟩,by dsimp only;omega⟩
   ·split<;>omega
   ·rcases List.mem_append.1 hk with hk|hk
    ·have:=hx2 k hk u hu
     split<;>omega
    ·simp at hk;subst hk
     rw [ht] at hu;cases hu
     split<;>omega
   ·split
    ·exact .inr ⟨y,t,by simp,ht,rfl⟩
    ·rcases hx3 with h|⟨k,u,h1,h2,h3⟩
     ·exact .inl h
     ·exact .inr ⟨k,u,by simp [h1],h2,h3⟩
theorem zPp (h:Mgr ρ w b s) (n:Int) {k:World->Prop} (H:∀ ρ' w',Mgr ρ' w' b (zBD s n)->Ext ρ w ρ' w'->k w'):
  Cl zA zFz [.pointer (ptrA b),.int .i64 n].toArray w (λe w'=>e=.returned (.tuple [].toArray)/\k w'):=zIV (ptrA b) n w k (zO9 h n H)
theorem zLm (h:Mgr ρ w b s) (n:Int) {k:World->Prop} (H:∀ ρ' w',Mgr ρ' w' b (zBD s n)->Ext ρ w ρ' w'->k w'):
  opD zA zFz [.pointer (ptrA b),.int .i64 n] w k:=ClD.mono (zHv (ptrA b) n w k (zO9 h n H)) λe w' h=>⟨⟨_,h.1⟩,h.2⟩
end
end Go.Proofs.YtealcoghiaeiiaaGreatDoor.VG
set_option linter.unusedVariables false
namespace Go.Proofs.YtealcoghiaeiiaaGreatDoor.VG
open Go.VB Go.Proofs Go.RowKit
theorem getE {α:Type} {l:List α} {n:Nat} (h:n<l.length):∃ x,l[n]?=some x:=⟨l[n]'h,by simp⟩
theorem zJK {α:Type} {l:List α} {n:Nat} {x:α} (h:l[n]?=some x) (p:α->Bool) (hn:(l.take n).any p=false):(l.take (n+1)).any p=p x:=by
 rw [zB7 h,List.any_append,hn];simp
theorem zLe {α:Type} {l:List α} {n:Nat} {x:α} (h:l[n]?=some x) (p:α->Bool) (hp:p x=true):l.any p=true:=List.any_eq_true.2 ⟨x,List.mem_of_getElem? h,hp⟩
def zI7 (fv:Value) (p:zG->Bool) (l:List zG) (w:World):Prop:=∀ d∈l,∀ w' (k:Bool->World->Prop),Bel w w'->(∀ w'',Bel w' w''->k (p d) w'')->zF5 zA fv [zG.v d] w' (λe w''=>∃ r:Bool,e=.returned (.bool r)/\k r w'')
theorem zIh {w:World} {x:Sl} {l:List zG} (hd:Rd zG.cells 4 w x l) {fv:Value} {p:zG->Bool} (hp:zI7 fv p l w) {k:Bool->World->Prop} (H:∀ w',Bel w w'->k (l.any p) w'):
  Cl zA zAO [Sl.v x,fv].toArray w (λe w'=>∃ r0:Bool,e=.returned (.bool r0)/\k r0 w'):=by
 have dbig:=hd.big;have dcap:=hd.cap;have dlen:=hd.len
 refine zAN x _ w k ?_
 unfold Qs
 refine zAd x _ w _ ?_
 unfold YM
 refine ⟨λi w1=>∃ n:Nat,i=(n:Int)/\n<=l.length/\Bel w w1/\(l.take n).any p=false,λi _=>(x.len - i).toNat,⟨0,rfl,by omega,Bel.refl _,by simp⟩,?_⟩
 rintro i w1 ⟨n,rfl,hn,hb,hno⟩
 unfold yu
 refine ⟨λhc=>?_,λhc=>?_⟩
 ·obtain ⟨d,hdn⟩:=getE (l:=l) (n:=n) (by omega)
  refine zE2 (hd.bel hb) yn QQ (by omega) (x:=d) (by simpa using hdn) λad hA=>?_
  refine zAs yM d rfl hA rfl ?_
  refine hp d (List.mem_of_getElem? hdn) w1 _ hb λw2 b2=>⟨λht=>?_,λhf=>?_⟩
  ·dsimp only
   rw [decide_eq_true (p:=0<=(n:Int)) (by omega),← zLe hdn p ht]
   exact H w2 (hb.trans b2)
  ·rw [wr64 (by omega) (by omega)]
   exact ⟨⟨n+1,by omega,by omega,hb.trans b2,by rw [zJK hdn p hno];exact hf⟩,by dsimp only;omega⟩
 ·obtain rfl:n=l.length:=by omega
  rw [List.take_length] at hno
  have:=H w1 hb
  rw [hno] at this
  exact this
def zKY (fv:Value) (p:yA->Bool) (l:List yA) (w:World):Prop:=∀ d∈l,∀ w' (k:Bool->World->Prop),Bel w w'->(∀ w'',Bel w' w''->k (p d) w'')->zF5 zA fv [yA.v d] w' (λe w''=>∃ r:Bool,e=.returned (.bool r)/\k r w'')
theorem zJu {w:World} {x:Sl} {l:List yA} (hd:Rd yA.cells 3 w x l) {fv:Value} {p:yA->Bool} (hp:zKY fv p l w) {k:Bool->World->Prop} (H:∀ w',Bel w w'->k (l.any p) w'):
  Cl zA zC8 [Sl.v x,fv].toArray w (λe w'=>∃ r0:Bool,e=.returned (.bool r0)/\k r0 w'):=by
 have dbig:=hd.big;have dcap:=hd.cap;have dlen:=hd.len
 refine zC7 x _ w k ?_
 unfold ZY
 refine zDz x _ w _ ?_
 unfold Z9
 refine ⟨λi w1=>∃ n:Nat,i=(n:Int)/\n<=l.length/\Bel w w1/\(l.take n).any p=false,λi _=>(x.len - i).toNat,⟨0,rfl,by omega,Bel.refl _,by simp⟩,?_⟩
 rintro i w1 ⟨n,rfl,hn,hb,hno⟩
 unfold Yf
 refine ⟨λhc=>?_,λhc=>?_⟩
 ·obtain ⟨d,hdn⟩:=getE (l:=l) (n:=n) (by omega)
  refine zE2 (hd.bel hb) zGK zKH (by omega) (x:=d) (by simpa using hdn) λad hA=>?_
  refine zAs zFF d rfl hA rfl ?_
  refine hp d (List.mem_of_getElem? hdn) w1 _ hb λw2 b2=>⟨λht=>?_,λhf=>?_⟩
  ·dsimp only
   rw [decide_eq_true (p:=0<=(n:Int)) (by omega),← zLe hdn p ht]
   exact H w2 (hb.trans b2)
  ·rw [wr64 (by omega) (by omega)]
   exact ⟨⟨n+1,by omega,by omega,hb.trans b2,by rw [zJK hdn p hno];exact hf⟩,by dsimp only;omega⟩
 ·obtain rfl:n=l.length:=by omega
  rw [List.take_length] at hno
  have:=H w1 hb
  rw [hno] at this
  exact this
def zF6 (fv:Value) (p:zM->Bool) (l:List zM) (w:World):Prop:=∀ d∈l,∀ w' (k:Bool->World->Prop),Bel w w'->(∀ w'',Bel w' w''->k (p d) w'')->zF5 zA fv [zM.v d] w' (λe w''=>∃ r:Bool,e=.returned (.bool r)/\k r w'')
theorem zJy {w:World} {x:Sl} {l:List zM} (hd:Rd zM.cells 2 w x l) {fv:Value} {p:zM->Bool} (hp:zF6 fv p l w) {k:Bool->World->Prop} (H:∀ w',Bel w w'->k (l.any p) w'):
  Cl zA zDF [Sl.v x,fv].toArray w (λe w'=>∃ r0:Bool,e=.returned (.bool r0)/\k r0 w'):=by
 have dbig:=hd.big;have dcap:=hd.cap;have dlen:=hd.len
 refine zDD x _ w k ?_
 unfold Zb
 refine zBK x _ w _ ?_
 unfold Y5
 refine ⟨λi w1=>∃ n:Nat,i=(n:Int)/\n<=l.length/\Bel w w1/\(l.take n).any p=false,λi _=>(x.len - i).toNat,⟨0,rfl,by omega,Bel.refl _,by simp⟩,?_⟩
 rintro i w1 ⟨n,rfl,hn,hb,hno⟩
 unfold QJ
 refine ⟨λhc=>?_,λhc=>?_⟩
 ·obtain ⟨d,hdn⟩:=getE (l:=l) (n:=n) (by omega)
  refine zE2 (hd.bel hb) Yu zAQ (by omega) (x:=d) (by simpa using hdn) λad hA=>?_
  refine zAs ZF d rfl hA rfl ?_
  refine hp d (List.mem_of_getElem? hdn) w1 _ hb λw2 b2=>⟨λht=>?_,λhf=>?_⟩
  ·dsimp only
   rw [decide_eq_true (p:=0<=(n:Int)) (by omega),← zLe hdn p ht]
   exact H w2 (hb.trans b2)
  ·rw [wr64 (by omega) (by omega)]
   exact ⟨⟨n+1,by omega,by omega,hb.trans b2,by rw [zJK hdn p hno];exact hf⟩,by dsimp only;omega⟩
 ·obtain rfl:n=l.length:=by omega
  rw [List.take_length] at hno
  have:=H w1 hb
  rw [hno] at this
  exact this
def zBJ (x:Spn) (key:ByteArray):Bool:=if x.only=true then decide (key=x.from_) else (!sLt key x.from_)&&(decide (x.to_=noB)||sLt key x.to_)
theorem zNP (x:Spn) (key:ByteArray) (w:World) {k:Bool->World->Prop} (H:∀ w',Bel w w'->k (zBJ x key) w'):
  Cl zA zJv [yA.v x,.string key].toArray w (λe w'=>∃ r0:Bool,e=.returned (.bool r0)/\k r0 w'):=by
 refine zJw x key w k ?_
 unfold zGI zB6 zB3
 refine zAi (cs:=x.cells) rfl λB w1 b1 hX _=>?_
 refine yO zIx zDa hX.at x.only rfl ?_
 have h:=H w1 b1
 unfold zBJ at h
 refine ⟨λho=>?_,λho=>?_⟩
 ·rw [if_pos ho] at h
  exact yO zGP zn hX.at x.from_ rfl h
 ·rw [if_neg (by simp [ho])] at h
  refine yO zGP zn hX.at x.from_ rfl ⟨λh1=>?_,λh1=>?_⟩
  ·rw [h1] at h
   refine yO zHQ zn hX.at x.to_ rfl ⟨λh2=>?_,λh2=>?_⟩
   ·rw [show decide (x.to_=noB)=true from decide_eq_true h2] at h
    exact h
   ·rw [show decide (x.to_=noB)=false from decide_eq_false h2] at h
    exact yO zHQ zn hX.at x.to_ rfl h
  ·rw [h1] at h
   exact h
def conf (t:Tx) (v:Ver):Bool:=decide (t.began<v.At)&&t.reads.any (λx=>zBJ x v.Key)
theorem zNy (x:Spn) {w:World} {B:Nat} {v:Ver} (hB:Row w B v.cells yI) {k:Bool->World->Prop} (H:∀ w',Bel w w'->k (zBJ x v.Key) w'):
  Cl zA zCt [yA.v x,.pointer (ptrA B)].toArray w (λe w'=>∃ r0:Bool,e=.returned (.bool r0)/\k r0 w'):=by
 refine zFn x (ptrA B) w k ?_
 unfold zBX
 refine zAi (cs:=x.cells) rfl λC w1 b1 hX _=>?_
 refine zAs zFF x rfl hX.at rfl ?_
 refine yO Y6 zn (hB.bel b1).at v.Key rfl ?_
 exact zNP x v.Key w1 λw2 b2=>H w2 (b1.trans b2)
theorem zOa (v:Ver) {w:World} {B tb wb:Nat} {rs:Sl} {t:Tx} (hB:Row w B [.pointer (ptrA tb)] zEy) (hT:Row w tb [.int .u64 t.began,Sl.v rs,.map (some wb)] zAq) (hR:Rd yA.cells 3 w rs t.reads) {k:Bool->World->Prop} (H:∀ w',Bel w w'->k (conf t v) w'):
  Cl zA zDq [zG.v v,.pointer (ptrA B)].toArray w (λe w'=>∃ r0:Bool,e=.returned (.bool r0)/\k r0 w'):=by
 refine zGG v (ptrA B) w k ?_
 unfold zBr ZK
 refine zAi (cs:=v.cells) rfl λC w1 b1 hX _=>?_
 have hB1:=hB.bel b1
 have hT1:=hT.bel b1
 refine zGF zAU yE hX.at v.At rfl ?_
 refine zMT zA4 (ptrA tb) hB1.cell ⟨trivial,?_⟩
 refine zGF zDy yE hT1.at t.began rfl ⟨λhc=>?_,λhc=>?_⟩
 ·refine zMT zA4 (ptrA tb) hB1.cell ⟨trivial,?_⟩
  refine zGF zAz zBc hT1.at rs rfl ?_
  refine ⟨t.reads.any (λx=>zBJ x v.Key),λW hW=>?_,λW hW=>?_⟩
  ·refine (zJu (hR.bel (b1.trans hW)) (p:=λx=>zBJ x v.Key) (λd _ w' k' hb hk=>.inl ⟨zCt,[],[.pointer (ptrA C)],rfl,zRu,zNy d ((hX.bel hW).bel hb) hk⟩) (k:=λr w'=>r=t.reads.any (λx=>zBJ x v.Key)/\Bel W w') λw' hb=>⟨rfl,hb⟩).mono λe w' ⟨r,he,hr,hb⟩=>⟨by rw [he,hr],hb⟩
  ·have:=H W (b1.trans hW)
   unfold conf at this
   rw [decide_eq_true hc,Bool.true_and] at this
   exact this
 ·intro W hW
  have:=H W (b1.trans hW)
  unfold conf at this
  rw [decide_eq_false hc,Bool.false_and] at this
  exact this
theorem zLU {ρ:Own} {w:World} {b:Nat} {s:St} {vs:Sl} {mb:Nat} {g:Int->Gh} (m:zCF ρ w b s vs mb g) {n:Int} {t:Tx} (ht:s.tx n=some t) {k:Bool->World->Prop} (H:∀ w',Bel w w'->k (s.l.any (conf t)) w'):
  Cl zA zGb [.pointer (ptrA b),.pointer (ptrA (g n).tb)].toArray w (λe w'=>∃ r0:Bool,e=.returned (.bool r0)/\k r0 w'):=by
 refine zGd (ptrA b) (ptrA (g n).tb) w k ?_
 unfold zCM
 refine zAi (cs:=[.pointer (ptrA (g n).tb)]) rfl λB w1 b1 hB _=>⟨trivial,?_⟩
 have m1:=m.bel b1
 have mt:=m1.tx n t ht
 refine ⟨_,w1,yX _ _,?_⟩
 refine yO z9 z5 m1.versAt vs rfl ?_
 exact zIh m1.vers (p:=conf t) (λd _ w' k' hb hk=>.inl ⟨zDq,[],[.pointer (ptrA B)],rfl,zSL,zOa d (hB.bel hb) (mt.row.bel hb) ((mt.rd.rd λ_=>rfl).bel hb) hk⟩) λw2 b2=>H w2 (b1.trans b2)
end Go.Proofs.YtealcoghiaeiiaaGreatDoor.VG
set_option linter.unusedVariables false
namespace Go.Proofs.YtealcoghiaeiiaaGreatDoor.VG
open Go.VB Go.VB.Srt Go.Proofs Go.RowKit
abbrev zDE (base:Nat) (w:World) (s:Sl) (l:List Wri):Prop:=OwnS zK.cells 3 zCW base w s l
theorem zDE.rd {base:Nat} {w:World} {s:Sl} {l:List Wri} (h:zDE base w s l):zKG w s l:=OwnS.rd h (λ_=>rfl)
abbrev encW (x:Wri):List Value:=[zK.v x]
theorem zMC {κ ν:Type} {w w':World} {ek:κ->Value} {ev:ν->Value} {b r:Nat} {f:κ->Option ν} {ks:List κ} (h:zAn ek ev w b r f ks) (hk:KeepsWalks w w'):zAn ek ev w' b r f ks:=by
 obtain ⟨c,sb,h1⟩:=h.blk
 obtain ⟨es,c',h2⟩:=h.mapLt
 exact h.keep ((hk.same b _ h2 rfl).trans h2.symm) ((hk.same r _ h1 rfl).trans h1.symm)
theorem KeepsWalks.row {w w':World} {row:Option Nat} (hg:w.grownBy w' row) (hr:∀ r,row=some r->∃ cs t fr,w.heap[r]?=some (.cells cs t fr)):KeepsWalks w w':=
 ⟨hg.size,λk o hk ho=>(hg.block k (Array.getElem?_eq_some_iff.1 hk).1 (λe=>by
  obtain ⟨cs,t,fr,h⟩:=hr k e.symm
  rw [h] at hk;cases hk;cases ho)).trans hk⟩
def zLX (f:ByteArray->Option Wri) (xs:List Wri):Prop:=∃ ks,Doms f ks/\xs=ks.filterMap f
theorem zGa {α β:Type} (f:α->Option β) (ks:List α) (h:∀ k∈ks,∃ v,f k=some v):(ks.filterMap f).length=ks.length:=by
 induction ks with
 |nil=>rfl
 |cons a ks ih=>
  obtain ⟨v,hv⟩:=h a (by simp)
  rw [List.filterMap_cons_some hv,List.length_cons,List.length_cons,ih λk hk=>h k (by simp [hk])]
theorem zNC {w:World} {f:ByteArray->Option Wri} {b b1:Nat} (h:Zp zY zK.v w b f) (h1:Row w b1 [.map (some b)] zGn) {dom:List ByteArray} (hd:Doms f dom):
  SeqStopsK (FW none) 0 zA ZH [.pointer (some ⟨b1,0,none⟩)].toArray (λx=>(encW x).toArray) KeepsWalks (zLX f) (λ_=>True) dom.length w:=by
 intro l' J Jx W hW hJ hJx hY h0
 have C:=zBN (.func (.yield l') #[] #[]) (some ⟨b1,0,none⟩) W (λw'=>(∃ xs,zLX f xs/\J xs w')∨(∃ pre,True/\Jx pre w')) ?_
 ·exact CallsIn.mono C λe w' hr=>⟨⟨_,hr.1⟩,hr.2⟩
 unfold YK
 refine zAF Qd (some b) (h1.bel hW).cell ?_
 refine zPK (h.bel hW) YS λW1 hi hb1=>?_
 have hblt:b<W.heap.size:=(h.bel hW).lt
 have hj0:J [] W1:=hJ _ _ _ none h0 (zh hb1 none) (λr e=>by cases e)
 generalize hR:W.heap.size=R at hi hblt ⊢
 refine ⟨λw1=>∃ ks,zAn zY zK.v w1 b R f ks/\J (ks.filterMap f) w1,λw1=>dom.length - zG8 w1 R,⟨[],hi,hj0⟩,?_⟩
 rintro w1 ⟨ks,hi1,hj1⟩
 unfold yk
 refine zMk hi1 (by omega) zIN (λhall=>?_) λx v w2 hx hn hi2 hg=>?_
 ·exact ⟨λ_=>.inl ⟨_,⟨ks,⟨hi1.nd,λx=>⟨hi1.dom x,λ⟨v,hv⟩=>hall x v hv⟩⟩,rfl⟩,hj1⟩,λk v e=>by cases e⟩
 ·refine ⟨λe=>(nomatch e),λk v' e=>?_⟩
  cases e
  have hj2:J (ks.filterMap f) w2:=hJ _ _ _ (some R) hj1 hg (λr e=>by
   cases e
   obtain ⟨c,sb,hb⟩:=hi1.blk
   exact ⟨by omega,_,hb,rfl⟩)
  have hcl:(ks++[x]).length<=dom.length:=zGN hi2.nd λy hy=>(hd.2 y).2 (hi2.dom y hy)
  have hl1:=hi1.size
  rw [yB,List.length_singleton] at hcl
  have hfl:=zGa f ks hi1.dom
  refine zH2 hi2 hx zIN ?_
  refine zBo zA5 rfl Q7 (cs:=v.cells) rfl rfl rfl λC w3 b3 hX _=>?_
  have hj3:J (ks.filterMap f) w3:=hJ _ _ _ none hj2 (zh b3 none) (λr e=>by cases e)
  have hi3:=hi2.bel b3
  refine zAs Q7 v rfl hX.at rfl ?_
  refine .inr ⟨l',rfl,YieldAt.mono (hY _ v w3 hj3 (by omega)) λe' w4 hr=>?_⟩
  rcases hr with ⟨rfl,hj4,hk⟩|⟨rfl,hj4⟩
  ·refine ⟨true,rfl,λh=>(nomatch h),λ_=>?_⟩
   have hi4:=zMC hi3 hk
   refine ⟨⟨_,hi4,by rw [List.filterMap_append,List.filterMap_cons_some hx];exact hj4⟩,?_⟩
   have hl3:=hi4.size
   rw [yB,List.length_singleton] at hl3
   dsimp only
   omega
  ·exact ⟨false,rfl,λ_=>.inr ⟨_,trivial,hj4⟩,λh=>(nomatch h)⟩
theorem zNw {w:World} {f:ByteArray->Option Wri} {b:Nat} (h:Zp zY zK.v w b f) {dom:List ByteArray} (hd:Doms f dom) {k:Value->World->Prop}
  (H:∀ v w',zJB zA v encW KeepsWalks (zLX f) (λ_=>True) dom.length w'->Bel w w'->k v w'):
  Cl zA zBV [.map (some b)].toArray w (λe w'=>∃ v:Value,e=.returned v/\k v w'):=by
 refine zBZ (some b) w k ?_
 unfold YW
 refine zAi (cs:=[.map (some b)]) rfl λB w1 b1 hr1 _=>?_
 exact H _ _ ⟨ZH,_,rfl,zR1,zNC (h.bel b1) hr1 hd⟩ b1
theorem zOc {base:Nat} {w0 w:World} {s:Sl} {l:List Wri} {x:Wri} {k:Sl->World->Prop} (hO:zDE base w s l) (hB:Bel w0 w) (hb:w0.heap.size<=base) (hbw:base<=w.heap.size) (room:l.length+1<=1000000000)
  (H:∀ s' w',zDE base w' s' (l++[x])->Bel w0 w'->w.grownBy w' (Sl.v s).ownBlock->k s' w'):
  opE zA Sl.v (zl zAM 1 [(0,zK.v x)].toArray) w (λy w=>opE zA Sl.v (Builtin.append_ #[zAM,zAM] zAM [Sl.v s,Sl.v y].toArray) w k):=
 zNB hO (λ_=>rfl) (λ_=>rfl) (by decide) zBs zJU rfl (by decide) (zJt x) hB hb hbw (by omega) H
theorem zMD {v:Value} {Sq Sp:List Wri->Prop} {Num:Nat} {w:World} (hs:zJB zA v encW KeepsWalks Sq Sp Num w) (hN:Num<=100000000) {k:Sl->World->Prop}
  (H:∀ r w' xs base,w.heap.size<=base->Sq xs->zDE base w' r xs->Bel w w'->k r w'):Cl zA zF2 [v].toArray w (λe w'=>∃ r0:Sl,e=.returned (Sl.v r0)/\k r0 w'):=by
 refine zF1 v w k ?_
 unfold zBh
 refine zDM Sl.none v w k ?_
 unfold Zq
 refine zRV rfl ?_
 have hb0:Bel w (w.alloc (.cells [Sl.v Sl.none].toArray zAM)):=Bel.alloc _ _
 have hr0:=Row.new w [Sl.v Sl.none] zAM
 have hsz:(w.alloc (.cells [Sl.v Sl.none].toArray zAM)).heap.size=w.heap.size+1:=size_alloc' _ _
 have hlo0:=hr0.lt
 generalize hB:w.heap.size=B at hr0 hsz hlo0 ⊢
 generalize (w.alloc (.cells [Sl.v Sl.none].toArray zAM))=w1 at hb0 hr0 hsz hlo0 ⊢
 refine ⟨zK.cells,KeepsWalks,Sq,Sp,Num,λpre W=>∃ sl,Row W B [Sl.v sl] zAM/\zDE w1.heap.size W sl pre/\Bel w W/\w1.heap.size<=W.heap.size,λ_ _=>False,
  ⟨hs.later hb0,λ_ _ _=>KeepsWalks.trans,λW l o o' h1 h2 h3 h4=>KeepsWalks.putObj o' h2 h4,λpre W o _=>KeepsWalks.alloc W o,λs W W' row hi hg hr=>?_,λs W W' row hi hg hr=>hi,λpre W hi=>hi.elim λ_ h=>h.2.2.2,⟨Sl.none,hr0,OwnS.nil _ _ _ _ _,hb0,zV _⟩⟩,
  λx W k hk=>zQO zA5 rfl Q7 (cs:=x.cells) rfl rfl rfl hk,?_,?_,?_⟩
 ·obtain ⟨sl,h1,h2,h3,h4⟩:=hi
  exact ⟨sl,h1.notwalk hg hr,h2.notwalk hg hr,h3.notwalk (by omega) hg hr,zj h4 hg.size⟩
 ·rintro pre x Bx W hBx hx ⟨sl,h1,h2,h3,h4⟩ hlen
  unfold ZD
  have hx':Row W Bx x.cells zCW:=hx
  refine zAF zCl sl h1.cell ?_
  refine zAs Q7 x rfl hx'.at rfl ?_
  refine zOc (w0:=w) (w:=W) h2 h3 (by omega) h4 (by omega) λs' w' h5 h6 h7=>?_
  have hne:(Sl.v sl).ownBlock≠some B:=λe=>by have:=h2.lo e;omega
  have hr1:=h1.grown h7 hne
  refine zHi zCl hr1 (by cases s' with|mk a l c=>cases a<;>rfl) (by cases s' with|mk a l c=>cases a<;>rfl) λw'' hr2 hg2=>?_
  refine ⟨(KeepsFrom.row h7 λr hr=>h2.isRow hr).trans (KeepsFrom.row hg2 λr hr=>by cases hr;exact ⟨_,_,_,hr1⟩),(KeepsWalks.row h7 λr hr=>h2.isRow hr).trans (KeepsWalks.row hg2 λr hr=>by cases hr;exact ⟨_,_,_,hr1⟩),s',hr2,h5.kept hg2 ?_,?_,zj h4 (zj h7.size hg2.size)⟩
  ·cases hq:(Sl.v s').ownBlock with
   |none=>exact .inl rfl
   |some q=>
    refine .inr λe=>?_
    have h8:=h5.lo hq
    have h9:=Option.some.inj e
    omega
  ·exact h6.grown hg2 λr hr=>by cases hr;omega
 ·rintro D xs W hD hS ⟨sl,h1,h2,h3,h4⟩ hK
  refine zAF zCl sl h1.cell ?_
  refine ⟨hK,?_⟩
  have hg:=zIn W D
  have hr:∀ r,some D=some r->w1.heap.size<=r/\∃ o:Obj,W.heap[r]?=some o/\o.isCells=false:=λr e=>by cases e;exact ⟨hD,_,hK,rfl⟩
  exact H sl _ xs _ (by omega) hS (h2.notwalk hg hr) (h3.notwalk (by omega) hg hr)
 ·exact λD pre W h1 h2 h3 h4=>trivial
def kltB (a b:Wri):Bool:=sLt a.Key b.Key
theorem zPC:Srt.SWO kltB where
 irr x:=by
  cases h:kltB x x with
  |false=>rfl
  |true=>exact absurd h (Zg x.Key)
 neg x y z h:=by
  unfold kltB at*
  by_cases h1:sLt x.Key y.Key=true
  ·exact .inl h1
  ·right
   by_cases h2:x.Key=y.Key
   ·rw [← h2];exact h
   ·exact zHL (zD1 h1 h2) h
 asy x y h:=by
  cases h1:kltB y x with
  |false=>rfl
  |true=>exact absurd h1 (zG0 h)
theorem zM1 (a b:Wri) (w:World) {k:Int->World->Prop} (H:∀ w',Bel w w'->k (cmpS a.Key b.Key) w'):Cl zA zEp [zK.v a,zK.v b].toArray w (λe w'=>∃ r0:Int,e=.returned (.int .i64 r0)/\k r0 w'):=by
 refine zIt a b w k ?_
 unfold zFA
 refine zAi (cs:=a.cells) rfl λB w1 b1 hA _=>?_
 refine zAi (cs:=b.cells) rfl λC w2 b2 hB _=>?_
 refine yO xf zn (hA.bel b2).at a.Key rfl ?_
 refine yO xf zn hB.at b.Key rfl ?_
 exact zH9 a.Key b.Key w2 (H w2 (b1.trans b2))
theorem zK9:SoCmpFunc_api_Write.Cmps (.func (.func zEp) #[] #[]) kltB:=λw x y=>
 ⟨cmpS x.Key y.Key,⟨zEp,[],[],rfl,zRZ,λw' _=>(zM1 x y w' (k:=λr W=>r=cmpS x.Key y.Key/\Bel w' W) λW hb=>⟨rfl,hb⟩).mono λe W ⟨r,he,hr,hb⟩=>⟨by rw [he,hr],hb⟩⟩,by rw [zLS];exact Iff.rfl⟩
def zEz (f:ByteArray->Option Wri) (ys:List Wri):Prop:=ys.Pairwise (λa b=>sLt a.Key b.Key=true)/\∀ x,x∈ys↔f x.Key=some x
theorem zEz.one {f:ByteArray->Option Wri} {xs ys:List Wri} (h:zEz f xs) (k:zEz f ys):xs=ys:=by
 have hm:∀ x,x∈xs↔x∈ys:=λx=>by rw [h.2,k.2]
 have h1:=h.1
 have k1:=k.1
 clear h k
 induction xs generalizing ys with
 |nil=>cases ys with
  |nil=>rfl
  |cons b ys=>exact absurd ((hm b).2 (by simp)) (by simp)
 |cons a xs ih=>
  cases ys with
  |nil=>exact absurd ((hm a).1 (by simp)) (by simp)
  |cons b ys=>
   obtain ⟨h2,h3⟩:=List.pairwise_cons.1 h1
   obtain ⟨k2,k3⟩:=List.pairwise_cons.1 k1
   have hab:a=b:=by
    rcases List.mem_cons.1 ((hm a).1 (by simp)) with e|e
    ·exact e
    ·rcases List.mem_cons.1 ((hm b).2 (by simp)) with e'|e'
     ·exact e'.symm
     ·exact absurd (h2 b e') (zG0 (k2 a e))
   subst hab
   rw [ih (λx=>?_) h3 k3]
   constructor
   ·intro hx
    rcases List.mem_cons.1 ((hm x).1 (by simp [hx])) with e|e
    ·subst e;exact absurd (h2 x hx) (Zg _)
    ·exact e
   ·intro hx
    rcases List.mem_cons.1 ((hm x).2 (by simp [hx])) with e|e
    ·subst e;exact absurd (k2 x hx) (Zg _)
    ·exact e
theorem zON {f:ByteArray->Option Wri} (hk:∀ k x,f k=some x->x.Key=k) {xs ys:List Wri} (hx:zLX f xs) (hp:ys.Perm xs) (hl:ys.Pairwise (λx y=>Le kltB x y)):zEz f ys/\∃ ks,Doms f ks/\ks.length=ys.length:=by
 obtain ⟨ks,hd,rfl⟩:=hx
 have hmem:∀ x,x∈ys↔f x.Key=some x:=λx=>by
  rw [hp.mem_iff,List.mem_filterMap]
  constructor
  ·rintro ⟨k,_,h⟩
   rw [hk k x h];exact h
  ·exact λh=>⟨x.Key,(hd.2 _).2 ⟨x,h⟩,h⟩
 have hnd:(ks.filterMap f).Pairwise (λx y=>x.Key≠y.Key):=by
  rw [List.pairwise_filterMap]
  refine hd.1.imp λ{a b} hab x hx y hy e=>hab ?_
  rw [← hk a x hx,← hk b y hy,e]
 have hnd':ys.Pairwise (λx y=>x.Key≠y.Key):=(hp.pairwise_iff (λ{x y} h=>h.symm)).2 hnd
 have hstr:ys.Pairwise (λa b=>sLt a.Key b.Key=true):=(hl.and hnd').imp λ{x y} h12=>by
  cases h:sLt x.Key y.Key with
  |true=>rfl
  |false=>
   have h3:sLt y.Key x.Key=true:=zD1 (by rw [h];decide) h12.2
   have h4:sLt y.Key x.Key=false:=h12.1
   rw [h3] at h4;cases h4
 exact ⟨⟨hstr,hmem⟩,ks,hd,by rw [hp.length_eq,zGa f ks λk hk'=>(hd.2 k).1 hk']⟩
theorem zND {ρ:Own} {w:World} {n:Int} {t:Tx} {g:Gh} (mt:TxAt ρ w n t g) (hk:∀ k x,t.wr k=some x->x.Key=k) {dom:List ByteArray} (hd:Doms t.wr dom) (hN:dom.length<=100000000) {k:Sl->World->Prop}
  (H:∀ r w' ys base,w.heap.size<=base->zEz t.wr ys->zDE base w' r ys->Bel w w'->k r w'):
  Cl zA zJR [.pointer (ptrA g.tb)].toArray w (λe w'=>∃ r0:Sl,e=.returned (Sl.v r0)/\k r0 w'):=by
 refine zJf (ptrA g.tb) w k ?_
 unfold zFs
 refine ⟨trivial,?_⟩
 refine yO zAG Qd mt.row.at (some g.wb) rfl ?_
 refine zNw mt.wr hd λv w1 hs b1=>?_
 refine zFb v _ w1 k ?_
 unfold zA9
 refine zMD hs hN λr w2 xs base hb hS hO hbel=>?_
 refine SoCmpFunc_api_Write.sort_ok zPC zK9 hO λys w3 hp hpw hO2 hg=>?_
 exact H r w3 ys base (zj b1.le hb) (zON hk hS hp hpw).1 hO2 ((b1.trans hbel).grown hg λq hq=>zj (zj b1.le hb) (hO.lo hq))
end Go.Proofs.YtealcoghiaeiiaaGreatDoor.VG
set_option linter.unusedVariables false
namespace Go.Proofs.YtealcoghiaeiiaaGreatDoor.VG
open Go.VB Go.Proofs Go.RowKit
def putS (s:St) (p:List Ver × Int × Int):St:={s with l:=p.1,low:=p.2.1,now:=s.now+1}
theorem _root_.Go.VB.OwnS.low {α:Type} {c:α->List Value} {n e base base':Nat} {w:World} {s:Sl} {xs:List α} (h:OwnS c n e base w s xs) (hb:base'<=base):OwnS c n e base' w s xs:=by
 refine ⟨h.len,h.small,h.row.1,?_⟩
 rcases h.row.2 with h1|⟨g,cap,cur,h1,h2,h3⟩
 ·exact .inl h1
 ·exact .inr ⟨g,cap,cur,h1,zj hb h2,h3⟩
def Few (t:Tx):Prop:=∃ ks,Doms t.wr ks/\ks.length<=256
def zPM (t:Tx):Prop:=∀ k x,t.wr k=some x->x.Key=k
theorem wu64 {n:Int} (h0:0<=n) (h1:n<=18446744073709551615):zB .u64 n=n:=IntWalk.u64_in _ ⟨h0,h1⟩
section
variable {ρ:Own} {w:World} {b:Nat} {s:St}
theorem zPV (h:Mgr ρ w b s) (n:Int) {k:Int->World->Prop} (H0:s.tx n=none->k 11 w) (H1:∀ t ρ' w',s.tx n=some t->Mgr ρ' w' b (zBD s n)->Ext ρ w ρ' w'->k 0 w'):
  Cl zA zFk [.pointer (ptrA b),.int .i64 n].toArray w (λe w'=>∃ r0:Int,e=.returned (.int .i64 r0)/\k r0 w'):=by
 have h':=h
 obtain ⟨vs,mb,g,m⟩:=h
 refine zH3 (ptrA b) n w k ?_
 unfold zEG
 refine zLu m n (λht=>⟨λ_=>H0 ht,λh=>absurd (by decide) h⟩) λt ht=>⟨λh=>absurd rfl h,λ_=>?_⟩
 exact zPp h' n λρ' w' hM hE=>H1 t ρ' w' ht hM hE
theorem zOD (h:Mgr ρ w b s) (n:Int) (hF:∀ t,s.tx n=some t->Few t/\zPM t) (hn0:0<=s.now) (hn1:s.now<4611686018427387904) {k:Sl->Int->Int->World->Prop}
  (H0:s.tx n=none->k Sl.none 0 11 w)
  (H1:∀ t ρ' w',s.tx n=some t->s.l.any (conf t)=true->Mgr ρ' w' b (zBD s n)->Ext ρ w ρ' w'->k Sl.none 0 10 w')
  (H2:∀ t ρ' w',s.tx n=some t->s.l.any (conf t)=false->(∀ x,t.wr x=none)->Mgr ρ' w' b (zBD s n)->Ext ρ w ρ' w'->k Sl.none s.now 0 w')
  (H3:∀ t ys ρ' w',s.tx n=some t->s.l.any (conf t)=false->zEz t.wr ys->(∃ x,t.wr x≠none)->(vput s.l s.low ys (s.now+1)).2.2≠0->Mgr ρ' w' b (zBD s n)->Ext ρ w ρ' w'->k Sl.none 0 (vput s.l s.low ys (s.now+1)).2.2 w')
  (H4:∀ t ys r ρ' w',s.tx n=some t->s.l.any (conf t)=false->zEz t.wr ys->(∃ x,t.wr x≠none)->(vput s.l s.low ys (s.now+1)).2.2=0->Mgr ρ' w' b (zBD (putS s (vput s.l s.low ys (s.now+1))) n)->Ext ρ w ρ' w'->
   zDE w.heap.size w' r ys->(∀ q,(Sl.v r).ownBlock=some q->w.heap.size<=q/\q<w'.heap.size/\ρ' q=none)->k r (s.now+1) 0 w'):
  Cl zA zFP [.pointer (ptrA b),.int .i64 n].toArray w (λe w'=>∃ (r0:Sl) (r1:Int) (r2:Int),e=.returned (.tuple [Sl.v r0,.int .u64 r1,.int .i64 r2].toArray)/\k r0 r1 r2 w'):=by
 obtain ⟨vs,mb,g,m⟩:=h
 refine zHW (ptrA b) n w k ?_
 unfold zDp
 refine zLu m n (λht=>⟨λ_=>H0 ht,λh=>absurd (by decide) h⟩) λt ht=>⟨λh=>absurd rfl h,λ_=>?_⟩
 refine zLU m ht λw1 b1=>?_
 have m1:=m.bel b1
 refine ⟨λhc=>zLm ⟨_,_,_,m1⟩ n λρ' w' hM hE=>H1 t ρ' w' ht hc hM ((Ext.bel b1).trans hE),λhc=>⟨trivial,?_⟩⟩
 have mt1:=m1.tx n t ht
 refine yO zAG Qd mt1.row.at (some (g n).wb) rfl ?_
 refine zMl mt1.wr zIN YS λks hks=>⟨λhz=>⟨trivial,?_⟩,λhz=>?_⟩
 ·have hks0:ks=[]:=List.eq_nil_of_length_eq_zero (by omega)
  have hno:∀ x,t.wr x=none:=λx=>by
   cases hx:t.wr x with
   |none=>rfl
   |some y=>have:=(hks.2 x).2 ⟨y,hx⟩;rw [hks0] at this;cases this
  refine zGF ZP yE m1.row.at s.now rfl λw2 b2=>?_
  exact zLm ⟨_,_,_,m1.bel b2⟩ n λρ' w' hM hE=>H2 t ρ' w' ht hc hno hM ((Ext.bel (b1.trans b2)).trans hE)
 obtain ⟨⟨dom,hd,hl⟩,hk⟩:=hF t ht
 have hex:∃ x,t.wr x≠none:=by
  cases ks with
  |nil=>exact absurd rfl hz
  |cons x ks=>obtain ⟨y,hy⟩:=(hks.2 x).1 (by simp);exact ⟨x,by rw [hy];simp⟩
 refine zND mt1 hk hd (by omega) λr w2 ys base hb hS hO b2=>?_
 have b02:=b1.trans b2
 have m2:=m1.bel b2
 have J1:∀ W C r4 base4,Bel w2 W->Row W C [Sl.v r4,.int .u64 (vput s.l s.low ys (s.now+1)).2.1] zx->w2.heap.size<=base4->Y9 base4 W r4 (vput s.l s.low ys (s.now+1)).1->
   Zc (ptrA b) n k r (vput s.l s.low ys (s.now+1)).2.2 (ptrA C) W:=by
  intro W C r4 base4 hb2 hC hb4 hO4
  unfold Zc
  have b0W:=b02.trans hb2
  have mW:=m.bel b0W
  refine ⟨λhne=>zLm ⟨_,_,_,mW⟩ n λρ' w' hM hE=>H3 t ys ρ' w' ht hc hS hex hne hM ((Ext.bel b0W).trans hE),λhz0=>?_⟩
  have hz0:=Classical.not_not.1 hz0
  refine zAs z8 ⟨r4,(vput s.l s.low ys (s.now+1)).2.1⟩ rfl hC.at rfl ⟨trivial,?_⟩
  refine ⟨_,W,yX _ _,?_⟩
  refine zQI z8 (vs:=[Sl.v r4,.int .u64 (vput s.l s.low ys (s.now+1)).2.1]) (off:=0) mW.row rfl (by simp) (by cases r4 with|mk a l c=>cases a<;>rfl) λW1 hR1 g1=>⟨trivial,?_⟩
  replace hR1:Row W1 b [Sl.v r4,.int .u64 (vput s.l s.low ys (s.now+1)).2.1,.int .u64 s.now,.int .i64 s.given,.map (some mb)] Zh:=hR1
  refine yO ZP yE hR1.at s.now rfl ⟨trivial,?_⟩
  rw [wu64 (by omega) (by omega)]
  refine ⟨_,W1,ZP _ _,?_⟩
  refine zGT yE hR1 rfl (by simp) rfl λW2 hR2 g2=>⟨trivial,?_⟩
  replace hR2:Row W2 b [Sl.v r4,.int .u64 (vput s.l s.low ys (s.now+1)).2.1,.int .u64 (s.now+1),.int .i64 s.given,.map (some mb)] Zh:=hR2
  have hg:=zS g1 g2
  have hs2:=b02.le
  have hsW:=hb2.le
  have hsg:=hg.size
  have hnew:∀ q,(Sl.v r4).ownBlock=some q->q<W.heap.size/\ρ q=none:=λq hq=>by
   refine ⟨hO4.lt hq,?_⟩
   have h2:=hO4.lo hq
   cases hρ:ρ q with
   |none=>rfl
   |some r0=>have h3:=m.lt q (by rw [hρ];simp);omega
  have m3:=mW.setVers (Y9.rd hO4) hnew hg hR2
  have hE3:Ext ρ w (λq=>if (Sl.v r4).ownBlock=some q then some .ve else ρ q) W2:=⟨(Ext.bel b0W).out.trans (Out.row (S:=λq=>ρ q≠none) hg λq hq=>by cases hq;exact .inl (by show ρ _≠none;rw [m.rmg];simp)) λ_ _ h=>h,λq hq=>if_neg λe=>by have:=hO4.lo e;omega⟩
  refine zGF ZP yE hR2.at (s.now+1) rfl λW3 b3=>?_
  refine zLm (s:=putS s (vput s.l s.low ys (s.now+1))) ⟨_,_,_,m3.bel b3⟩ n λρ' w' hM hE=>?_
  have hrq:∀ q,(Sl.v r).ownBlock=some q->w.heap.size<=q/\q<w2.heap.size/\ρ q=none/\(if (Sl.v r4).ownBlock=some q then some Role.ve else ρ q)=none:=λq hq=>by
   have h1:=hO.lo hq
   have h2:=hO.lt hq
   have h3:ρ q=none:=by
    cases hρ:ρ q with
    |none=>rfl
    |some r0=>have h3:=m.lt q (by rw [hρ];simp);have:=b1.le;omega
   refine ⟨by have:=b1.le;omega,h2,h3,?_⟩
   rw [if_neg λe=>by have:=hO4.lo e;omega];exact h3
  have hs3:=b3.le
  refine H4 t ys r ρ' w' ht hc hS hex hz0 hM ((hE3.trans (Ext.bel b3)).trans hE) ((hO.low (zj b1.le hb)).keep λq hq=>?_) λq hq=>?_
  ·obtain ⟨h1,h2,h3,h4⟩:=hrq q hq
   rw [hE.blk (by omega) h4,b3.block q (by omega),hg.block q (by omega) (λe=>by cases e;rw [m.rmg] at h3;cases h3),hb2.block q h2]
  ·obtain ⟨h1,h2,h3,h4⟩:=hrq q hq
   have:=hE.out.size
   exact ⟨h1,by omega,(hE.same q (by omega)).trans h4⟩
 refine ⟨Bel w2,λu bu=>⟨bu,trivial,?_⟩⟩
 refine zFa yX ⟨trivial,?_⟩
 refine zFa ZP ?_
 refine zNG z8 (cs:=[Sl.v vs,.int .u64 s.low]) ⟨vs,s.low⟩ rfl (λW hW=>(m2.bel hW).versAt) rfl ?_
 refine zCk yE s.now (λW hW=>(m2.bel hW).row.at.fld rfl) ?_
 rw [wu64 (by omega) (by omega)]
 constructor
 ·refine zNc (x0:=⟨vs,s.low⟩) (m2.bel bu).vers ((zDE.rd hO).bel bu) (s.now+1) λr4 w3 base4 hb4 hO4 b3=>?_
  refine ⟨bu.trans b3,?_⟩
  refine zD6 Zy λC w4 b4 hC hC0=>⟨(bu.trans b3).trans b4,?_⟩
  refine zIF z8 (cs':=[Sl.v r4,.int .u64 (vput s.l s.low ys (s.now+1)).2.1]) hC rfl rfl (by cases r4 with|mk a l c=>cases a<;>rfl) λw5 hC5 g5=>?_
  have b3l:=b3.le
  have bul:=bu.le
  have b5:Bel w2 w5:=((bu.trans b3).trans b4).grown g5 λq hq=>by cases hq;omega
  exact ⟨b5,J1 w5 C r4 base4 b5 hC5 (by omega) ((hO4.bel b4).kept g5 (OwnS.ne_row (hO4.bel b4) hC (by decide) |> Or.inr))⟩
 ·refine zD6 Zy λC w3 b3 hC hC0=>⟨bu.trans b3,?_⟩
  refine zNc (x0:=⟨vs,s.low⟩) (m2.bel (bu.trans b3)).vers ((zDE.rd hO).bel (bu.trans b3)) (s.now+1) λr4 w4 base4 hb4 hO4 b4=>?_
  refine ⟨(bu.trans b3).trans b4,?_⟩
  refine zIF z8 (cs':=[Sl.v r4,.int .u64 (vput s.l s.low ys (s.now+1)).2.1]) (hC.bel b4) rfl rfl (by cases r4 with|mk a l c=>cases a<;>rfl) λw5 hC5 g5=>?_
  have b3l:=b3.le
  have bul:=bu.le
  have b5:Bel w2 w5:=((bu.trans b3).trans b4).grown g5 λq hq=>by cases hq;omega
  exact ⟨b5,J1 w5 C r4 base4 b5 hC5 (by omega) (hO4.kept g5 (OwnS.ne_row hO4 (hC.bel b4) (by decide) |> Or.inr))⟩
end
end Go.Proofs.YtealcoghiaeiiaaGreatDoor.VG
set_option linter.unusedVariables false
set_option linter.unusedSimpArgs false
namespace Go.Proofs.YtealcoghiaeiiaaGreatDoor.VG
open Go.VB Go.Proofs
def zD9 (Ret:(Option Addr)->Int->World->Prop) (x14:Option Addr) (x21:Int) (Kl1:Int->World->Prop) (x6:Option Addr) (x38:Bool) (w:World):Prop:=
 yF w (λw=>(x38=true->(Ret none 2 w))/\(x38=false->(regC w (λC3 w=>QL (.pointer x14)/\(opC C3 zA zC (zN 57 (.pointer x14) 0) (λx42=>opC C3 zA zC (zN 42 (.pointer x42) 0) (λx43=>opC C3 zA zC (zN 53 (.pointer x6) 0) (λx45=>opC C3 zA zC (zN 53 (.pointer x6) 1) (λx47=>opC C3 zA Sl.v (zE 40 (.pointer x43)) (λx44=>opC C3 zA zY (zE 9 (.pointer x45)) (λx46=>opC C3 zA zY (zE 9 (.pointer x47)) (λx48=>opC C3 zA zG.v (yo 59 [(0,(.string x46)),(1,(.int .u64 1)),(2,(.string x48))].toArray) (λx49=>opE zA Sl.v (zl 40 1 [(0,(zG.v x49))].toArray) w (λx50 w=>C3 w/\(opE zA Sl.v (Builtin.append_ #[40,40] 40 [(Sl.v x44),(Sl.v x50)].toArray) w (λx51 w=>C3 w/\(QL (.pointer x14)/\(opC C3 zA zC (zN 57 (.pointer x14) 0) (λx53=>opC C3 zA zC (zN 42 (.pointer x53) 0) (λx54=>opU zA (zI 40 (.pointer x54) (Sl.v x51)) w (λw=>(Kl1 (zB .i64 (x21+1)) w))))))))))))))))))))))
def zFh (x0:Sl) (Ret:(Option Addr)->Int->World->Prop) (x14:Option Addr) (x21:Int) (w:World) (Kl1:Int->World->Prop):Prop:=
 ((x21<(x0.len:Int))->(opE zA zC (zF 22 (Sl.v x0) (.int .i64 x21)) w (λx24 w=>opE zA zM.v (zE 53 (.pointer x24)) w (λx25 w=>opE zA zC (ze 53 true (.tuple #[])) w (λx6 w=>opU zA (zI 53 (.pointer x6) (zM.v x25)) w (λw=>((0<x21)->(opB zA zC (zF 22 (Sl.v x0) (.int .i64 (zB .i64 (x21 - 1)))) w (λx32=>opB zA zC (zN 53 (.pointer x32) 0) w (λx33=>opB zA zY (zE 9 (.pointer x33)) w (λx34=>opB zA zC (zN 53 (.pointer x6) 0) w (λx35=>opB zA zY (zE 9 (.pointer x35)) w (λx36=>zD9 Ret x14 x21 Kl1 x6 (!sLt x34 x36) w)))))))/\(¬ (0<x21)->(zD9 Ret x14 x21 Kl1 x6 false w))))))))/\(¬ (x21<(x0.len:Int))->(Ret x14 0 w))
def zJZ (x0:Sl) (w:World) (Ret:(Option Addr)->Int->World->Prop):Prop:=
 ((4096<(x0.len:Int))->(Ret none 3 w))/\(¬ (4096<(x0.len:Int))->(Cl zA 15 [(Sl.v x0),(.func (.func 16) #[] #[])].toArray w (λe w=>∃ (r:Bool),e=.returned (.bool r)/\((r=true->(Ret none 4 w))/\(r=false->(opE zA Value.map (Instr.makeMap 55 none) w (λx12 w=>opE zA zCC.v (yo 57 [(1,(.int .u64 1)),(3,(.map x12))].toArray) w (λx13 w=>opE zA zC (Instr.box 57 (zCC.v x13)) w (λx14 w=>QL (.pointer x14)/\(opE zA zC (zN 57 (.pointer x14) 0) w (λx17 w=>opE zA zC (zN 42 (.pointer x17) 1) w (λx18 w=>opU zA (zI 33 (.pointer x18) (.int .u64 1)) w (λw=>∃ (I:Int->World->Prop) (μ:Int->World->Nat),I 0 w/\∀ (x21:Int) w,I x21 w->zFh x0 Ret x14 x21 w (λx21' w'=>I x21' w'/\μ x21' w'<μ x21 w))))))))))))))
set_option maxRecDepth 100000 in
theorem zMu (x0:Sl) (w:World) (Ret:(Option Addr)->Int->World->Prop) (H:zJZ x0 w Ret):Cl zA 5 [(Sl.v x0)].toArray w (λe w'=>∃ (r0:Option Addr) (r1:Int),e=.returned (.tuple [(.pointer r0),(.int .i64 r1)].toArray)/\Ret r0 r1 w'):=by
 unfold zJZ at H
 refine zf 57 (zipE 0 [(Sl.v x0)]) Tryz.func5 rfl rfl (by rfl) rfl ?_
 intro a g
 replace g:Sat [] 57 [(0,(Sl.v x0))] a:=g
 refine zJ (zD (g.as_ rfl λ_ g=>g.as_ rfl λ_ g=>zL (tn (zJ (zJ (zD (g.mv rfl λ_ g=>g.purR (λw=>zAT g Tryz.underlying22 rfl) λ_ g=>g.pur (zA7 g rfl rfl) λ_ g=>zL (tn (za g rfl (λhc=>?_) (λhc=>?_))))))))))
 ·replace H:=H.1 hc
  exact zJ (zD (g.as_ rfl λ_ g=>g.as_ rfl λ_ g=>zL (tn (zd (tr (Zn g rfl rfl rfl ⟨_,_,rfl,H⟩))))))
 ·replace H:=H.2 hc
  refine zW (tn (zJ (zJ (zD (g.mv rfl λ_ g=>g.call (zZ g zR3 rfl rfl) H λe w H=>?_)))))
  obtain ⟨r,rfl,H⟩:=H
  refine ⟨_,rfl,λ_ g=>(zL (tn (zg g rfl (λhc=>?_) (λhc=>?_))))⟩
  ·replace H:=H.1 hc
   exact zJ (zD (g.as_ rfl λ_ g=>g.as_ rfl λ_ g=>zL (tn (zd (tr (Zn g rfl rfl rfl ⟨_,_,rfl,H⟩))))))
  ·replace H:=H.2 hc
   refine zW (tn (zJ (zD (g.op (zJh) H λx12 w a H g=>g.op (Z2 g rfl) H λx13 w a H g=>g.op (zBI g rfl) H λx14 w a H g=>g.as_ rfl λ_ g=>zL (tn (zJ (zD (g.mv rfl λ_ g=>g.pur (zc g rfl H.1) λ_ g=>?_))))))))
   replace H:=H.2
   refine g.op (zR g rfl) H λx17 w a H g=>g.op (zR g rfl) H λx18 w a H g=>g.opu (zT g rfl rfl) H λw a H g=>zL (tn (zJ (zJ (zD (g.mv rfl λ_ g=>g.purR (λw=>zAT g Tryz.underlying22 rfl) λ_ g=>g.mv rfl λ_ g=>zL (tn (zX ?_)))))))
   obtain ⟨I_l1,μ_l1,h0,hb⟩:=H
   refine yH (ds:=[]) (N:=57) (σ:=Int) (λs=>[(21,(.int .i64 s)),(0,(Sl.v x0)),(4,(.pointer x14)),(19,(Sl.v x0)),(20,(.int .i64 (x0.len:Int)))]) (λs w=>I_l1 s w) (λs w=>μ_l1 s w) 0 h0 (g.wk) ?_
   intro x21 w a hI g
   try dsimp only at hI g
   obtain ⟨Kl1,hK_l1⟩:∃ K:Int->World->Prop,K=(λx21' w'=>I_l1 x21' w'/\μ_l1 x21' w'<μ_l1 x21 w):=⟨_,rfl⟩
   have H:zFh x0 Ret x14 x21 w Kl1:=by rw [hK_l1];exact hb x21 w hI
   clear hb h0 hI
   unfold zFh at H
   refine zJ (zD (g.pur (yV g rfl rfl) λ_ g=>zL (tn (zJ (za g rfl (λhc=>?_) (λhc=>?_))))))
   ·replace H:=H.1 hc
    refine zW (tn (zJ (zX (zJ (zD (g.mv rfl λ_ g=>g.op (zH g rfl rfl) H λx24 w a H g=>g.op (zO g rfl) H λx25 w a H g=>g.op (QP) H λx6 w a H g=>g.as_ rfl λ_ g=>g.opu (zT g rfl rfl) H λw a H g=>zL (tn (zJ (zJ (Qf (by kernel_rfl) (by kernel_rfl) (g.qm rfl λ_ g=>g.qpur (zA7 g rfl rfl) λ_ g=>g.qm rfl λ_ g=>WQ.join (ds:=[]) (N:=57) (σ:=Bool) (λs=>[(38,(.bool s)),(0,(Sl.v x0)),(4,(.pointer x14)),(6,(.pointer x6)),(19,(Sl.v x0)),(20,(.int .i64 (x0.len:Int))),(21,(.int .i64 x21))]) (λs=>zD9 Ret x14 x21 Kl1 x6 s w) 10 ?_ (λhr2=>?_))))))))))))
    ·intro x38 a H g
     try dsimp only at H g
     unfold zD9 at H
     refine Qe (λw hB=>?_)
     replace H:=H w hB
     refine (tn (zg g rfl (λhc=>?_) (λhc=>?_)))
     ·replace H:=H.1 hc
      exact zJ (zD (g.as_ rfl λ_ g=>g.as_ rfl λ_ g=>zL (tn (zd (tr (br (tr (tr (br (tr (Zn g rfl rfl rfl ⟨_,_,rfl,H⟩)))))))))))
     ·replace H:=H.2 hc
      refine zW (tn (zNF 16 H 17 (λC3 w hC0 H=>g.kp 0 rfl hC0 (Q9 (zQ g rfl)) λ_ g=>g.kp 1 rfl hC0 (Q9 (zQ g rfl)) λ_ g=>g.kp 2 rfl hC0 (Q9 (zc g rfl H.1)) λ_ g=>?_)))
      replace H:=H.2
      refine g.ko 3 rfl hC0 (zR g rfl) H λx42 a H g=>g.ko 4 rfl hC0 (zR g rfl) H λx43 a H g=>g.ko 6 rfl hC0 (zR g rfl) H λx45 a H g=>g.ko 8 rfl hC0 (zR g rfl) H λx47 a H g=>g.ko 5 rfl hC0 (zO g rfl) H λx44 a H g=>g.ko 7 rfl hC0 (zO g rfl) H λx46 a H g=>g.ko 9 rfl hC0 (zO g rfl) H λx48 a H g=>g.ko 10 rfl hC0 (Z2 g rfl) H λx49 a H g=>WK.on 11 rfl ?_
      intro K hK
      refine g.wop (Y4 g rfl) H λx50 w a H g=>hK _ _ ⟨H.1,?_⟩
      have hC1:=H.1
      replace H:=H.2
      refine WK.on 12 rfl ?_
      intro K hK
      refine g.wop (zBe g rfl) H λx51 w a H g=>hK _ _ ⟨H.1,?_⟩
      have hC2:=H.1
      replace H:=H.2
      refine g.kp 13 rfl hC2 (Q9 (zc g rfl H.1)) λ_ g=>?_
      replace H:=H.2
      refine g.ko 14 rfl hC2 (zR g rfl) H λx53 a H g=>g.ko 15 rfl hC2 (zR g rfl) H λx54 a H g=>WK.la 16 rfl ?_
      intro K hK
      refine g.wopu (zT g rfl rfl) H λw a H g=>hK _ _ (WK.nil (by kernel_rfl) ((bn (tn (zD (g.pur (zm g rfl rfl) λ_ g=>g.mv rfl λ_ g=>?_))))))
      rw [hK_l1] at H
      exact zL (tn ⟨(zB .i64 (x21+1)),g.wk,H⟩)
    ·rcases Classical.em ((0<x21)) with hbr2|hbr2
     ·replace H:=H.1 hbr2
      replace g:=g.bool (b:=true) (t:=28) rfl (decide_eq_true hbr2)
      exact g.qon (by rfl) (by rfl) (g.qm rfl λ_ g=>g.qon (by rfl) (by rfl) (g.qm rfl λ_ g=>g.qon (by rfl) (by rfl) (g.qpur (zo g rfl rfl) λ_ g=>g.qon (by rfl) (by rfl) (g.qop (zH g rfl rfl) H λx32 a H g=>g.qon (by rfl) (by rfl) (g.qop (zR g rfl) H λx33 a H g=>g.qon (by rfl) (by rfl) (g.qop (zO g rfl) H λx34 a H g=>g.qon (by rfl) (by rfl) (g.qop (zR g rfl) H λx35 a H g=>g.qon (by rfl) (by rfl) (g.qop (zO g rfl) H λx36 a H g=>g.qon (by rfl) (by rfl) (g.qpur (zNm g rfl rfl) λ_ g=>g.qpur (yD g rfl rfl) λ_ g=>hr2 (!sLt x34 x36) _ H (g.wk))))))))))
     ·replace H:=H.2 hbr2
      replace g:=g.bool (b:=false) (t:=28) rfl (decide_eq_false hbr2)
      exact g.qoff (by rfl) (by rfl) (by decide) (λ_ g=>g.qoff (by rfl) (by rfl) (by decide) (λ_ g=>g.qoff (by rfl) (by rfl) (by decide) (λ_ g=>g.qoff (by rfl) (by rfl) (by decide) (λ_ g=>g.qoff (by rfl) (by rfl) (by decide) (λ_ g=>g.qoff (by rfl) (by rfl) (by decide) (λ_ g=>g.qoff (by rfl) (by rfl) (by decide) (λ_ g=>g.qoff (by rfl) (by rfl) (by decide) (λ_ g=>g.qoff (by rfl) (by rfl) (by decide) (λ_ g=>g.qpur (yC g rfl rfl) λ_ g=>hr2 false _ H (g.wk))))))))))
   ·replace H:=H.2 hc
    exact z7 (te (te (be (tn (zJ (zD (g.mv rfl λ_ g=>g.as_ rfl λ_ g=>g.as_ rfl λ_ g=>zL (tn (zd (Zn g rfl rfl rfl ⟨_,_,rfl,H⟩))))))))))
def zDr (Ret:Bool->World->Prop) (x12:Bool) (w:World):Prop:=
 Ret x12 w
def zH8 (x0:zM) (w:World) (Ret:Bool->World->Prop):Prop:=
 opE zA zC (Instr.box 53 (zM.v x0)) w (λx1 w=>opE zA zC (zN 53 (.pointer x1) 0) w (λx3 w=>opE zA zY (zE 9 (.pointer x3)) w (λx4 w=>((256<(x4.size:Int))->(zDr Ret true w))/\(¬ (256<(x4.size:Int))->(opE zA zC (zN 53 (.pointer x1) 1) w (λx8 w=>opE zA zY (zE 9 (.pointer x8)) w (λx9 w=>zDr Ret (decide (512<(x9.size:Int))) w)))))))
set_option maxRecDepth 100000 in
theorem zLb (x0:zM) (w:World) (Ret:Bool->World->Prop) (H:zH8 x0 w Ret):Cl zA 16 [(zM.v x0)].toArray w (λe w'=>∃ (r0:Bool),e=.returned (.bool r0)/\Ret r0 w'):=by
 unfold zH8 at H
 refine zf 13 (zipE 0 [(zM.v x0)]) Tryz.func16 rfl rfl (by rfl) rfl ?_
 intro a g
 replace g:Sat [] 13 [(0,(zM.v x0))] a:=g
 refine zJ (zD (g.op (zBI g rfl) H λx1 w a H g=>g.as_ rfl λ_ g=>zL (tn (zJ (zD (g.op (zR g rfl) H λx3 w a H g=>g.op (zO g rfl) H λx4 w a H g=>g.purR (λw=>zGz g Tryz.underlying9 rfl) λ_ g=>g.pur (zA7 g rfl rfl) λ_ g=>g.mv rfl λ_ g=>WL.join (ds:=[]) (N:=13) (σ:=Bool) (λs=>[(12,(.bool s))]) (λs w=>zDr Ret s w) 5 ?_ (λhr1=>?_)))))))
 ·intro x12 w a H g
  try dsimp only at H g
  unfold zDr at H
  exact g.as_ rfl λ_ g=>zL (tn (zd (zp g rfl rfl ⟨_,rfl,H⟩)))
 ·rcases Classical.em ((256<(x4.size:Int))) with hbr1|hbr1
  ·replace H:=H.1 hbr1
   replace g:=g.bool (b:=true) (t:=7) rfl (decide_eq_true hbr1)
   exact g.off (by rfl) (by rfl) (by decide) (λ_ g=>g.off (by rfl) (by rfl) (by decide) (λ_ g=>g.off (by rfl) (by rfl) (by decide) (λ_ g=>g.off (by rfl) (by rfl) (by decide) (λ_ g=>g.pur (yD g rfl rfl) λ_ g=>hr1 true _ _ H (g.wk)))))
  ·replace H:=H.2 hbr1
   replace g:=g.bool (b:=false) (t:=7) rfl (decide_eq_false hbr1)
   exact g.on (by rfl) (by rfl) (g.op (zR g rfl) H λx8 w a H g=>g.on (by rfl) (by rfl) (g.op (zO g rfl) H λx9 w a H g=>g.on (by rfl) (by rfl) (g.purR (λw=>zGz g Tryz.underlying9 rfl) λ_ g=>g.on (by rfl) (by rfl) (g.pur (zA7 g rfl rfl) λ_ g=>g.pur (yC g rfl rfl) λ_ g=>hr1 (decide (512<(x9.size:Int))) _ _ H (g.wk)))))
end Go.Proofs.YtealcoghiaeiiaaGreatDoor.VG
set_option linter.unusedVariables false
namespace Go.Proofs.YtealcoghiaeiiaaGreatDoor.VG
open Go.VB Go.Proofs Go.RowKit
def verP (p:Pai):Ver:=⟨p.Key,1,p.Val,false⟩
def newS (l:List Pai):St:=⟨l.map verP,1,1,0,λ_=>none⟩
def zID (p:Pai):Bool:=decide (256<(p.Key.size:Int))||decide (512<(p.Val.size:Int))
def zGB (l:List Pai) (n:Nat):Prop:=∀ j x y,j+1<n->l[j]?=some x->l[j+1]?=some y->sLt x.Key y.Key=true
theorem zPr (p:Pai) (w:World) {k:Bool->World->Prop} (H:∀ w',Bel w w'->k (zID p) w'):Cl zA zI9 [zM.v p].toArray w (λe w'=>∃ r0:Bool,e=.returned (.bool r0)/\k r0 w'):=by
 refine zLb p w k ?_
 unfold zH8 zDr
 refine zAi (cs:=p.cells) rfl λB w1 b1 hX _=>?_
 have h:=H w1 b1
 unfold zID at h
 refine yO Zs zn hX.at p.Key rfl ⟨λhc=>?_,λhc=>?_⟩
 ·rw [decide_eq_true hc] at h;exact h
 ·rw [decide_eq_false hc] at h
  exact yO zGr zn hX.at p.Val rfl h
abbrev zJW (sl:Sl) (low:Int) (mb:Nat):List Value:=[Sl.v sl,.int .u64 low,.int .u64 1,.int .i64 0,.map (some mb)]
theorem zQj {w:World} {x:Sl} {l:List Pai} (hd:zIE w x l) {k:Option Addr->Int->World->Prop}
  (H0:4096<l.length->k none 3 w)
  (H1:l.length<=4096->l.any zID=true->∀ w',Bel w w'->k none 4 w')
  (H2:l.length<=4096->l.any zID=false->¬ zGB l l.length->∀ w',Bel w w'->k none 2 w')
  (H3:l.length<=4096->l.any zID=false->zGB l l.length->∀ b ρ w',Bel w w'->Mgr ρ w' b (newS l)->(∀ k,k<w.heap.size->ρ k=none)->k (ptrA b) 0 w'):
  Cl zA zKK [Sl.v x].toArray w (λe w'=>∃ (r0:Option Addr) (r1:Int),e=.returned (.tuple [.pointer r0,.int .i64 r1].toArray)/\k r0 r1 w'):=by
 have dbig:=hd.big;have dcap:=hd.cap;have dlen:=hd.len
 refine zMu x w k ?_
 unfold zJZ
 refine ⟨λhc=>H0 (by omega),λhc=>?_⟩
 have hl:l.length<=4096:=by omega
 refine zJy hd (p:=zID) (λd _ w' k' hb hk=>.inl ⟨zI9,[],[],rfl,zRP,zPr d w' hk⟩) λw1 b1=>⟨λhc=>H1 hl hc w1 b1,λhno=>?_⟩
 refine zM5 (ek:=zU .i64) (ev:=zC) λhM=>?_
 have hB2:=Bel.alloc w1 (.map #[] 0)
 have s2:=size_alloc' w1 (.map #[] 0)
 generalize hmb:w1.heap.size=mb at hM s2 ⊢
 generalize w1.alloc (.map #[] 0)=w2 at hM hB2 s2 ⊢
 refine ⟨⟨⟨Sl.none,0⟩,1,0,some mb⟩,w2,by kernel_rfl,?_⟩
 refine zAi (cs:=zJW Sl.none 0 mb) rfl λB w3 b3 hR hB0=>⟨trivial,?_⟩
 have hmb2:mb<w2.heap.size:=by omega
 refine ⟨_,w3,yX _ _,?_⟩
 refine ⟨_,w3,Zj _ _,?_⟩
 rw [zFM]
 refine zGT (off:=0+1) yE hR rfl (by simp) rfl λw4 hR4 g4=>?_
 replace hR4:Row w4 B (zJW Sl.none 1 mb) Zh:=hR4
 have s3:=b3.le
 have s4:=g4.size
 have hBm:B≠mb:=by omega
 have hM4:=(hM.bel b3).grown g4 (by simpa using hBm)
 have b12:=b1.trans hB2
 have s12:=b12.le
 have b04:Bel w w4:=(b12.trans b3).grown g4 λr hr=>by cases hr;omega
 have hBl:B<w4.heap.size:=hR4.lt
 refine ⟨λi W=>∃ (n:Nat) (sl:Sl),i=(n:Int)/\n<=l.length/\Row W B (zJW sl 1 mb) Zh/\Y9 w4.heap.size W sl ((l.take n).map verP)/\Zp (zU .i64) zC W mb (λ_=>none)/\Bel w W/\w4.heap.size<=W.heap.size/\zGB l n,λi _=>(x.len - i).toNat,
  ⟨0,Sl.none,rfl,by omega,hR4,OwnS.nil _ _ _ _ _,hM4,b04,zV _,λj _ _ h=>by omega⟩,?_⟩
 rintro i W ⟨n,sl,rfl,hn,hRW,hOW,hMW,hbW,hsW,hrise⟩
 unfold zFh
 refine ⟨λhc=>?_,λhc=>?_⟩
 ·obtain ⟨p,hp⟩:=getE (l:=l) (n:=n) (by omega)
  refine zE2 (hd.bel hbW) Yu zAQ (by omega) (x:=p) (by simpa using hp) λad hA=>?_
  refine zAs ZF p rfl hA rfl ?_
  refine zBo zHD rfl ZF (cs:=p.cells) rfl rfl rfl λX W1 b5 hX hX0=>?_
  have J:∀ (c:Bool),(c=true->¬ zGB l l.length)->(c=false->zGB l (n+1))->zD9 k (ptrA B) (n:Int) (λx21' w'=>(∃ (n:Nat) (sl:Sl),x21'=(n:Int)/\n<=l.length/\Row w' B (zJW sl 1 mb) Zh/\Y9 w4.heap.size w' sl ((l.take n).map verP)/\Zp (zU .i64) zC w' mb (λ_=>none)/\Bel w w'/\w4.heap.size<=w'.heap.size/\zGB l n)/\(x.len - x21').toNat<(x.len - (n:Int)).toNat) (ptrA X) c W1:=by
   intro c hc1 hc0
   unfold zD9
   intro W2 b6
   refine ⟨λh1=>H2 hl hno (hc1 h1) W2 ((hbW.trans b5).trans b6),λh1=>?_⟩
   have hR2:=(hRW.bel b5).bel b6
   have hX2:=hX.bel b6
   have b56:=b5.trans b6
   refine ⟨λW'=>Row W' B (zJW sl 1 mb) Zh/\Row W' X p.cells zBA,λW3 b7=>⟨⟨hR2.bel b7,hX2.bel b7⟩,trivial,?_⟩⟩
   refine zFa yX ?_
   refine zFa z9 ?_
   refine zFa Zs ?_
   refine zFa zGr ?_
   refine zCk z5 sl (λW hW=>by rw [zFM];exact hW.1.at.fld rfl) ?_
   refine zCk zn p.Key (λW hW=>hW.2.at.fld rfl) ?_
   refine zCk zn p.Val (λW hW=>hW.2.at.fld rfl) ?_
   refine ⟨verP p,λW hW=>by kernel_rfl,?_⟩
   refine ⟨_,_,zGS (verP p) W3,?_⟩
   have b8:=Bel.alloc W3 (.cells (verP p).cells.toArray yI)
   have hlit:zEf (W3.alloc (.cells (verP p).cells.toArray yI)) ⟨some ⟨W3.heap.size,0,none⟩,1,1⟩ [verP p]:=by
    have:=Rd.lit (c:=zG.cells) (n:=4) (λ_=>rfl) [verP p] (by simp) W3 yI
    simpa using this
   have s8:=size_alloc' W3 (.cells (verP p).cells.toArray yI)
   generalize W3.alloc (.cells (verP p).cells.toArray yI)=W4 at b8 hlit s8 ⊢
   have b58:=(b56.trans b7).trans b8
   have hR8:=(hR2.bel b7).bel b8
   have hX8:=(hX2.bel b7).bel b8
   refine ⟨⟨hR8,hX8⟩,?_⟩
   have hO8:=hOW.bel b58
   have hs8:=b58.le
   refine zNI (w0:=w) hO8 hlit (hbW.trans b58) b04.le (by omega) (by simp;omega) λsl' W5 hO9 b9 g9=>?_
   have hne:(Sl.v sl).ownBlock≠some B:=λe=>by have:=hO8.lo e;omega
   have hneX:(Sl.v sl).ownBlock≠some X:=λe=>by have:=hOW.lt e;omega
   have hnem:(Sl.v sl).ownBlock≠some mb:=λe=>by have:=hO8.lo e;omega
   have hR9:=hR8.grown g9 hne
   refine ⟨⟨hR9,hX8.grown g9 hneX⟩,trivial,?_⟩
   refine zFa yX ?_
   refine zFa z9 ?_
   rw [zFM]
   refine zGT (off:=0+0) z5 hR9 (by cases sl' with|mk a l c=>cases a<;>rfl) (by simp) (by cases sl' with|mk a l c=>cases a<;>rfl) λW6 hR10 g10=>?_
   replace hR10:Row W6 B (zJW sl' 1 mb) Zh:=hR10
   rw [wr64 (by omega) (by omega)]
   have hlast:(l.take (n+1)).map verP=(l.take n).map verP++[verP p]:=by rw [zB7 hp,List.map_append];rfl
   refine ⟨⟨n+1,sl',by omega,by omega,hR10,?_,((hMW.bel b58).grown g9 hnem).grown g10 (by simpa using hBm),b9.grown g10 λr hr=>by cases hr;omega,by have:=g9.size;have:=g10.size;omega,hc0 h1⟩,by omega⟩
   rw [hlast]
   refine hO9.kept g10 (.inr λe=>?_)
   have:=hO9.lo e;omega
  refine ⟨λh0=>?_,λh0=>?_⟩
  ·obtain ⟨q,hq⟩:=getE (l:=l) (n:=n - 1) (by omega)
   have hdW:=(hd.bel hbW).bel b5
   rw [wr64 (by omega) (by omega)]
   refine zI4 hdW Yu zAQ (by omega) (x:=q) (by rw [show ((n:Int) - 1).toNat=n - 1 from by omega];exact hq) λad hA=>?_
   refine zGF Zs zn hA q.Key rfl ?_
   refine zGF Zs zn hX.at p.Key rfl ?_
   refine J _ (λh1 h2=>?_) λh1=>?_
   ·have:=h2 (n - 1) q p (by omega) hq (by rw [show n - 1+1=n from by omega];exact hp)
    rw [this] at h1;cases h1
   ·intro j y z hj hy hz
    by_cases hjn:j+1<n
    ·exact hrise j y z hjn hy hz
    ·obtain rfl:j=n - 1:=by omega
     rw [hq] at hy;cases hy
     rw [show n - 1+1=n from by omega,hp] at hz;cases hz
     simpa using h1
  ·refine J false (λh=>(nomatch h)) λ_ j y z hj hy hz=>by omega
 ·obtain rfl:n=l.length:=by omega
  rw [List.take_length] at hOW
  have hold:∀ q,q<w.heap.size->q≠B/\q≠mb/\(Sl.v sl).ownBlock≠some q:=λq hq=>by
   have:=b1.le
   have:=b04.le
   exact ⟨by omega,by omega,λe=>by have:=hOW.lo e;omega⟩
  refine H3 hl hno hrise B (λq=>if q=B then some .mg else if q=mb then some .om else if (Sl.v sl).ownBlock=some q then some .ve else none) W hbW ⟨sl,mb,λ_=>⟨0,0,Sl.none⟩,?_⟩ λq hq=>?_
  ·exact {
    row:=hRW
    rmg:=if_pos rfl
    vers:=Y9.rd hOW
    rve:=λq hq=>by
     have:=hOW.lo hq
     rw [if_neg (by omega),if_neg (by omega),if_pos hq]
    mp:=hMW
    rom:=by rw [if_neg hBm.symm,if_pos rfl]
    tx:=λn t ht=>by cases ht
    lt:=λq hq=>by
     split at hq
     ·rename_i e;subst e;exact hRW.lt
     ·split at hq
      ·rename_i e;subst e;exact hMW.lt
      ·split at hq
       ·rename_i e;exact hOW.lt e
       ·exact absurd rfl hq}
  ·obtain ⟨h1,h2,h3⟩:=hold q hq
   rw [if_neg h1,if_neg h2,if_neg h3]
end Go.Proofs.YtealcoghiaeiiaaGreatDoor.VG
set_option linter.unusedVariables false
namespace Go.Proofs.YtealcoghiaeiiaaGreatDoor.VG
open Go.VB Go.Proofs Go.RowKit
structure Ans where
 why:Int
 tx:Int
 val:ByteArray
 is:Bool
 pairs:List Pai
 done:List Wri
 time:Int
def zJq (w:World) (x:zv) (a:Ans):Prop:=x.Why=a.why/\x.Tx=a.tx/\x.Val=a.val/\x.Is=a.is/\zIE w x.Pairs a.pairs/\zKG w x.Done a.done/\x.Time=a.time
theorem zJq.bel {w w':World} {x:zv} {a:Ans} (h:zJq w x a) (hb:Bel w w'):zJq w' x a:=⟨h.1,h.2.1,h.2.2.1,h.2.2.2.1,h.2.2.2.2.1.bel hb,h.2.2.2.2.2.1.bel hb,h.2.2.2.2.2.2⟩
end Go.Proofs.YtealcoghiaeiiaaGreatDoor.VG
set_option linter.unusedVariables false
namespace Go.Proofs.YtealcoghiaeiiaaGreatDoor.VG
open Go.VB Go.Proofs Go.RowKit
theorem zOm (s:St) (n:Int):(zBD s n).tx=del s.tx n:=by unfold zBD zK3;split<;>rfl
abbrev l1:List Pai:=[⟨tA,t1⟩]
abbrev v1:Ver:=⟨tA,1,t1,false⟩
theorem zPb {s:St} {ks:List Int} (hd:Doms s.tx ks):∃ lo,zGt s lo:=by
 have:∀ ks:List Int,∃ lo,lo<=s.now/\(∀ k∈ks,∀ t,s.tx k=some t->lo<=t.began)/\(lo=s.now∨∃ k t,s.tx k=some t/\lo=t.began):=by
  intro ks
  induction ks with
  |nil=>exact ⟨s.now,Int.le_refl _,by simp,.inl rfl⟩
  |cons k ks ih=>
   obtain ⟨lo,h1,h2,h3⟩:=ih
   cases ht:s.tx k with
   |none=>exact ⟨lo,h1,λj hj t hjt=>by
     rcases List.mem_cons.1 hj with e|e
     ·subst e;rw [ht] at hjt;cases hjt
     ·exact h2 j e t hjt,h3⟩
   |some u=>
    by_cases hu:u.began<lo
    ·exact ⟨u.began,by omega,λj hj t hjt=>by
      rcases List.mem_cons.1 hj with e|e
      ·subst e;rw [ht] at hjt;cases hjt;exact Int.le_refl _
      ·have:=h2 j e t hjt;omega,.inr ⟨k,u,ht,rfl⟩⟩
    ·exact ⟨lo,h1,λj hj t hjt=>by
      rcases List.mem_cons.1 hj with e|e
      ·subst e;rw [ht] at hjt;cases hjt;omega
      ·exact h2 j e t hjt,h3⟩
 obtain ⟨lo,h1,h2,h3⟩:=this ks
 exact ⟨lo,h1,λn t ht=>h2 n ((hd.2 n).2 ⟨t,ht⟩) t ht,h3⟩
end Go.Proofs.YtealcoghiaeiiaaGreatDoor.VG
set_option linter.unusedVariables false
namespace Go.Proofs.YtealcoghiaeiiaaGreatDoor.VG
open Go.VB Go.Proofs Go.RowKit
section
variable {κ ν:Type}
theorem zMH {f:κ->Option ν} {ks js:List κ} (h:Doms f ks) (k:Doms f js):ks.length=js.length:=
 Nat.le_antisymm (zGN h.1 λx hx=>(k.2 x).2 ((h.2 x).1 hx)) (zGN k.1 λx hx=>(h.2 x).2 ((k.2 x).1 hx))
open Classical in
noncomputable def cnt (f:κ->Option ν):Nat:=if h:∃ ks,Doms f ks then h.choose.length else 0
theorem zJb {f:κ->Option ν} {ks:List κ} (h:Doms f ks):cnt f=ks.length:=by
 have:∃ ks,Doms f ks:=⟨ks,h⟩
 unfold cnt;rw [dif_pos this];exact zMH this.choose_spec h
theorem zKP {f:κ->Option ν} {ks:List κ} (h:Doms f ks) (k:κ) (v:ν):∃ js,Doms (upd f k v) js/\js.length<=ks.length+1/\(f k≠none->js.length=ks.length):=by
 by_cases hk:k∈ks
 ·refine ⟨ks,⟨h.1,λx=>?_⟩,by omega,λ_=>rfl⟩
  by_cases hx:x=k
  ·subst hx;rw [zAY];exact ⟨λ_=>⟨v,rfl⟩,λ_=>hk⟩
  ·rw [Ze _ _ hx];exact h.2 x
 ·refine ⟨k::ks,⟨List.nodup_cons.2 ⟨hk,h.1⟩,λx=>?_⟩,by simp,λhn=>absurd ((h.2 k).2 (Option.ne_none_iff_exists'.1 hn)) hk⟩
  by_cases hx:x=k
  ·subst hx;rw [zAY];exact ⟨λ_=>⟨v,rfl⟩,λ_=>by simp⟩
  ·rw [Ze _ _ hx,← h.2 x,List.mem_cons];exact ⟨λh1=>h1.resolve_left hx,.inr⟩
theorem zL6 {f:κ->Option ν} {ks:List κ} (h:Doms f ks) (k:κ):∃ js,Doms (del f k) js/\js.length<=ks.length:=by
 classical
 refine ⟨ks.filter (λx=>decide (x≠k)),⟨h.1.sublist List.filter_sublist,λx=>?_⟩,List.length_filter_le _ _⟩
 rw [List.mem_filter,h.2 x]
 by_cases hx:x=k
 ·subst hx;rw [zF9];simp
 ·rw [zDv _ hx];simp [hx]
end
section
variable {α:Type} (key:α->ByteArray)
abbrev Rise (ys:List α):Prop:=ys.Pairwise (λa b=>sLt (key a) (key b)=true)
theorem zOq (x:α):∀ ys:List α,Rise key ys->(∀ y∈ys,key y≠key x)->∃ zs,Rise key zs/\∀ z,z∈zs↔z=x∨z∈ys
 |[],_,_=>⟨[x],by simp,by simp⟩
 |y::ys,h,hk=>by
  obtain ⟨h1,h2⟩:=List.pairwise_cons.1 h
  by_cases c:sLt (key x) (key y)=true
  ·refine ⟨x::y::ys,List.pairwise_cons.2 ⟨λz hz=>?_,h⟩,by simp⟩
   rcases List.mem_cons.1 hz with e|e
   ·rw [e];exact c
   ·exact zHL c (h1 z e)
  ·have hyx:sLt (key y) (key x)=true:=zD1 c (λe=>hk y (by simp) e.symm)
   obtain ⟨zs,h3,h4⟩:=zOq x ys h2 (λz hz=>hk z (by simp [hz]))
   refine ⟨y::zs,List.pairwise_cons.2 ⟨λz hz=>?_,h3⟩,λz=>?_⟩
   ·rcases (h4 z).1 hz with e|e
    ·rw [e];exact hyx
    ·exact h1 z e
   ·rw [List.mem_cons,List.mem_cons,h4]
    constructor
    ·rintro (e|e|e)
     ·exact .inr (.inl e)
     ·exact .inl e
     ·exact .inr (.inr e)
    ·rintro (e|e|e)
     ·exact .inr (.inl e)
     ·exact .inl e
     ·exact .inr (.inr e)
theorem zNi:∀ xs:List α,xs.Pairwise (λa b=>key a≠key b)->∃ ys,Rise key ys/\∀ z,z∈ys↔z∈xs
 |[],_=>⟨[],by simp,by simp⟩
 |x::xs,h=>by
  obtain ⟨h1,h2⟩:=List.pairwise_cons.1 h
  obtain ⟨ys,h3,h4⟩:=zNi xs h2
  obtain ⟨zs,h5,h6⟩:=zOq key x ys h3 (λy hy e=>h1 y ((h4 y).1 hy) e.symm)
  exact ⟨zs,h5,λz=>by rw [h6,h4,List.mem_cons]⟩
theorem zOw {xs ys:List α} (h1:Rise key xs) (k1:Rise key ys) (hm:∀ x,x∈xs↔x∈ys):xs=ys:=by
 induction xs generalizing ys with
 |nil=>cases ys with
  |nil=>rfl
  |cons b ys=>exact absurd ((hm b).2 (by simp)) (by simp)
 |cons a xs ih=>
  cases ys with
  |nil=>exact absurd ((hm a).1 (by simp)) (by simp)
  |cons b ys=>
   obtain ⟨h2,h3⟩:=List.pairwise_cons.1 h1
   obtain ⟨k2,k3⟩:=List.pairwise_cons.1 k1
   have hab:a=b:=by
    rcases List.mem_cons.1 ((hm a).1 (by simp)) with e|e
    ·exact e
    ·rcases List.mem_cons.1 ((hm b).2 (by simp)) with e'|e'
     ·exact e'.symm
     ·exact absurd (h2 b e') (zG0 (k2 a e))
   subst hab
   rw [ih h3 k3 (λx=>?_)]
   constructor
   ·intro hx
    rcases List.mem_cons.1 ((hm x).1 (by simp [hx])) with e|e
    ·subst e;exact absurd (h2 x hx) (Zg _)
    ·exact e
   ·intro hx
    rcases List.mem_cons.1 ((hm x).2 (by simp [hx])) with e|e
    ·subst e;exact absurd (k2 x hx) (Zg _)
    ·exact e
end
open Classical in
noncomputable def zG1 (f:ByteArray->Option Wri):List Wri:=if h:∃ ys,zEz f ys then h.choose else []
theorem zIM {f:ByteArray->Option Wri} {ys:List Wri} (h:zEz f ys):zG1 f=ys:=by
 have:∃ ys,zEz f ys:=⟨ys,h⟩
 unfold zG1;rw [dif_pos this];exact this.choose_spec.one h
theorem zMQ {f:ByteArray->Option Wri} {ks:List ByteArray} (hd:Doms f ks) (hk:∀ k x,f k=some x->x.Key=k):zEz f (zG1 f)/\(zG1 f).length=ks.length:=by
 have hnd:(ks.filterMap f).Pairwise (λx y=>x.Key≠y.Key):=by
  rw [List.pairwise_filterMap]
  refine hd.1.imp λ{a b} hab x hx y hy e=>hab ?_
  rw [← hk a x hx,← hk b y hy,e]
 obtain ⟨ys,h1,h2⟩:=zNi (λx:Wri=>x.Key) _ hnd
 have hS:zEz f ys:=⟨h1,λx=>by
  rw [h2,List.mem_filterMap]
  constructor
  ·rintro ⟨k,_,h⟩
   rw [hk k x h];exact h
  ·exact λh=>⟨x.Key,(hd.2 _).2 ⟨x,h⟩,h⟩⟩
 rw [zIM hS]
 refine ⟨hS,?_⟩
 rw [← zGa f ks λk hk'=>(hd.2 k).1 hk']
 refine Nat.le_antisymm (zGN ?_ λx hx=>(h2 x).1 hx) (zGN ?_ λx hx=>(h2 x).2 hx)
 ·exact h1.imp λ{a b} h e=>by subst e;exact Zg _ h
 ·exact hnd.imp λ{a b} h e=>h (by rw [e])
theorem zEz.keys {f:ByteArray->Option Wri} {ys:List Wri} (h:zEz f ys):(zDn ys).Nodup:=by
 unfold zDn
 rw [List.Nodup,List.pairwise_map]
 exact h.1.imp λ{a b} h e=>by rw [e] at h;exact Zg _ h
def zBb (f:ByteArray->Option ByteArray) (ys:List Pai):Prop:=Rise (λp:Pai=>p.Key) ys/\∀ p:Pai,p∈ys↔f p.Key=some p.Val
theorem zBb.one {f:ByteArray->Option ByteArray} {xs ys:List Pai} (h:zBb f xs) (k:zBb f ys):xs=ys:=zOw _ h.1 k.1 λx=>by rw [h.2,k.2]
open Classical in
noncomputable def zJI (f:ByteArray->Option ByteArray):List Pai:=if h:∃ ys,zBb f ys then h.choose else []
theorem zKO {f:ByteArray->Option ByteArray} {ys:List Pai} (h:zBb f ys):zJI f=ys:=by
 have:∃ ys,zBb f ys:=⟨ys,h⟩
 unfold zJI;rw [dif_pos this];exact this.choose_spec.one h
def val (l:List Ver) (key:ByteArray) (T:Int):Option ByteArray:=match sees l key T with
 |none=>none
 |some x=>if x.Gone=true then none else some x.Val
theorem zOU (l:List Ver) (key:ByteArray) (T:Int):val l key T=if (outV (sees l key T)).2=true then some (outV (sees l key T)).1 else none:=by
 unfold val
 cases h:sees l key T with
 |none=>rfl
 |some x=>cases hg:x.Gone<;>simp [outV,hg]
theorem zPi {l:List Ver} {low:Int} (h:zCu l low) (key:ByteArray) (T:Int):outV (sees l key T)=((val l key T).getD noB,(val l key T).isSome):=by
 unfold val
 cases hs:sees l key T with
 |none=>rfl
 |some x=>
  have hm:=h.made (zGo hs).1
  cases hg:x.Gone
  ·simp [outV,hg]
  ·simp [outV,hg,hm.gone hg]
theorem zPu {l:List Ver} {low0:Int} (hg:zCu l low0) {low T:Int} (h:low<=T) (key:ByteArray):val (swp low l) key T=val l key T:=by rw [zOU,zOU,zOP hg h]
theorem zPH {l:List Ver} {low n T:Int} (hg:zCu l low) (h:∀ x∈l,x.At<=n) (hT:n<=T) (key:ByteArray):val l key T=val l key n:=by
 unfold val
 rw [zKX hg.sorted hg.sorted (s:=T) (t:=n) λx _=>⟨λ⟨h1,_⟩=>⟨h1,h x h1⟩,λ⟨h1,h2⟩=>⟨h1,by omega⟩⟩]
def ovl (wr:ByteArray->Option Wri) (f:ByteArray->Option ByteArray) (key:ByteArray):Option ByteArray:=match wr key with
 |some x=>if x.Gone=true then none else some x.Val
 |none=>f key
theorem zLp {l:List Ver} {low n:Int} {m:List Wri} {wr:ByteArray->Option Wri} (h:pwhy l low m (n+1)=0) (hn:∀ x∈l,x.At<=n) (hS:zEz wr m) (hk:∀ k x,wr k=some x->x.Key=k) (key:ByteArray):
  val (putL l (n+1) m) key (n+1)=ovl wr (λk=>val l k n) key:=by
 have hg:=(zF3.1 h).1
 unfold ovl
 cases hw:wr key with
 |some x=>
  have hxk:=hk key x hw
  have hx:x∈m:=(hS.2 x).2 (by rw [hxk];exact hw)
  have:=zP0 h (Int.le_refl _) hx
  rw [hxk] at this
  simp only [val,this,mk]
  cases x.Gone<;>simp
 |none=>
  have h1:sees (putL l (n+1) m) key (n+1)=sees l key (n+1):=zN6 h (Int.le_refl _) λy hy e=>by
   have:=(hS.2 y).1 hy;rw [e,hw] at this;cases this
  simp only
  rw [← zPH hg hn (show n<=n+1 by omega) key]
  unfold val;rw [h1]
structure TxOk (t:Tx):Prop where
 few:Few t
 keyed:zPM t
 short:∀ k x,t.wr k=some x->¬ zBk x
 bare:∀ k x,t.wr k=some x->x.Gone=true->x.Val=noB
 rds:t.reads.length<=256
structure Inv (s:St):Prop where
 good:zCu s.l s.low
 lo:1<=s.low
 lonow:s.low<=s.now
 past:∀ x∈s.l,x.At<=s.now
 giv:0<=s.given
 dom:∃ ks,Doms s.tx ks/\ks.length<=16
 num:∀ n t,s.tx n=some t->1<=n/\n<=s.given
 tim:∀ n t,s.tx n=some t->s.low<=t.began/\t.began<=s.now
 txok:∀ n t,s.tx n=some t->TxOk t
theorem Inv.free {s:St} (h:Inv s):s.tx (s.given+1)=none:=by
 cases ht:s.tx (s.given+1) with
 |none=>rfl
 |some t=>have:=h.num _ t ht;omega
abbrev maxT:Int:=2305843009213693952
theorem zPE (s:St):TxOk (zHS s):=⟨⟨[],⟨List.nodup_nil,λk=>by simp [zHS]⟩,by simp⟩,λk x h=>(nomatch h),λk x h=>(nomatch h),λk x h=>(nomatch h),by simp [zHS]⟩
theorem zK0 {s:St} (h:Inv s) (hc:cnt s.tx<16):Inv (zGf s) where
 good:=h.good
 lo:=h.lo
 lonow:=h.lonow
 past:=h.past
 giv:=by show 0<=s.given+1;have:=h.giv;omega
 dom:=by
  obtain ⟨ks,hd,hl⟩:=h.dom
  rw [zJb hd] at hc
  obtain ⟨js,h1,h2,_⟩:=zKP hd (s.given+1) (zHS s)
  exact ⟨js,h1,by omega⟩
 num n t ht:=by
  show 1<=n/\n<=s.given+1
  have hg:=h.giv
  by_cases hn:n=s.given+1
  ·omega
  ·have:=h.num n t (by rw [← Ze s.tx (zHS s) hn];exact ht);omega
 tim n t ht:=by
  show s.low<=t.began/\t.began<=s.now
  by_cases hn:n=s.given+1
  ·subst hn
   have h1:upd s.tx (s.given+1) (zHS s) (s.given+1)=some t:=ht
   rw [zAY] at h1;cases h1
   exact ⟨h.lonow,Int.le_refl _⟩
  ·exact h.tim n t (by rw [← Ze s.tx (zHS s) hn];exact ht)
 txok n t ht:=by
  by_cases hn:n=s.given+1
  ·subst hn
   have h1:upd s.tx (s.given+1) (zHS s) (s.given+1)=some t:=ht
   rw [zAY] at h1;cases h1
   exact zPE s
  ·exact h.txok n t (by rw [← Ze s.tx (zHS s) hn];exact ht)
theorem zJS {s:St} (h:Inv s) {n:Int} {t t':Tx} (ht:s.tx n=some t) (hb:t'.began=t.began) (hk:TxOk t'):Inv (setTx s n t') where
 good:=h.good
 lo:=h.lo
 lonow:=h.lonow
 past:=h.past
 giv:=h.giv
 dom:=by
  obtain ⟨ks,hd,hl⟩:=h.dom
  obtain ⟨js,h1,_,h2⟩:=zKP hd n t'
  exact ⟨js,h1,by rw [h2 (by rw [ht];simp)];exact hl⟩
 num m u hu:=by
  show 1<=m/\m<=s.given
  by_cases hm:m=n
  ·subst hm;exact h.num _ t ht
  ·exact h.num m u (by rw [← Ze s.tx t' hm];exact hu)
 tim m u hu:=by
  show s.low<=u.began/\u.began<=s.now
  by_cases hm:m=n
  ·subst hm
   have h1:upd s.tx m t' m=some u:=hu
   rw [zAY] at h1;cases h1
   rw [hb];exact h.tim _ t ht
  ·exact h.tim m u (by rw [← Ze s.tx t' hm];exact hu)
 txok m u hu:=by
  by_cases hm:m=n
  ·subst hm
   have h1:upd s.tx m t' m=some u:=hu
   rw [zAY] at h1;cases h1;exact hk
  ·exact h.txok m u (by rw [← Ze s.tx t' hm];exact hu)
theorem zNa {t:Tx} (h:TxOk t) (hl:t.reads.length<256) (x:Spn):TxOk (addR t x):=⟨h.few,h.keyed,h.short,h.bare,by simp [addR];omega⟩
theorem zP3 {t:Tx} (h:TxOk t) {x:Wri} (hx:¬ zBk x) (hb:x.Gone=true->x.Val=noB) (hl:t.wr x.Key=none->cnt t.wr<256):TxOk (putW t x) where
 few:=by
  obtain ⟨ks,hd,hk⟩:=h.few
  obtain ⟨js,h1,h2,h3⟩:=zKP hd x.Key x
  refine ⟨js,h1,?_⟩
  by_cases hn:t.wr x.Key=none
  ·have:=hl hn;rw [zJb hd] at this;omega
  ·rw [h3 hn];exact hk
 keyed k y hy:=by
  have h1:upd t.wr x.Key x k=some y:=hy
  by_cases hk:k=x.Key
  ·subst hk;rw [zAY] at h1;cases h1;rfl
  ·rw [Ze _ _ hk] at h1;exact h.keyed k y h1
 short k y hy:=by
  have h1:upd t.wr x.Key x k=some y:=hy
  by_cases hk:k=x.Key
  ·subst hk;rw [zAY] at h1;cases h1;exact hx
  ·rw [Ze _ _ hk] at h1;exact h.short k y h1
 bare k y hy:=by
  have h1:upd t.wr x.Key x k=some y:=hy
  by_cases hk:k=x.Key
  ·subst hk;rw [zAY] at h1;cases h1;exact hb
  ·rw [Ze _ _ hk] at h1;exact h.bare k y h1
 rds:=h.rds
theorem zNo {s:St} (h:Inv s) (hn:s.now<=maxT) (n:Int):∃ lo,zGt (delTx s n) lo/\s.low<=lo/\lo<=s.now/\zBD s n={delTx s n with l:=swp lo s.l,low:=lo}:=by
 obtain ⟨ks,hd,_⟩:=h.dom
 obtain ⟨js,hj,_⟩:=zL6 hd n
 obtain ⟨lo,hlo⟩:=zPb (s:=delTx s n) hj
 have h1:lo<=s.now:=hlo.now
 have h2:s.low<=lo:=by
  rcases hlo.hit with e|⟨m,t,ht,e⟩
  ·rw [e];exact h.lonow
  ·have hm:m≠n:=λe'=>by subst e';simp [delTx,zF9] at ht
   have ht':s.tx m=some t:=by simpa [delTx,zDv _ hm] using ht
   rw [e];exact (h.tim m t ht').1
 have hv:zE9 (delTx s n).l (delTx s n).low lo=(swp lo s.l,lo,0):=zNt h.good h2 (by unfold maxT at hn;omega)
 refine ⟨lo,hlo,h2,h1,?_⟩
 unfold zBD zK3
 rw [← hlo.eq,hv]
 rfl
theorem zPt {s:St} {n m:Int} {t:Tx} (h:(zBD s n).tx m=some t):m≠n/\s.tx m=some t:=by
 rw [zOm] at h
 have hm:m≠n:=λe=>by subst e;rw [zF9] at h;cases h
 exact ⟨hm,by rw [zDv _ hm] at h;exact h⟩
theorem zGp {s:St} (h:Inv s) (hn:s.now<=maxT) (n:Int):Inv (zBD s n):=by
 obtain ⟨lo,hlo,h1,h2,he⟩:=zNo h hn n
 have htx:∀ m t,(zBD s n).tx m=some t->s.tx m=some t:=λm t ht=>(zPt ht).2
 have h4:=h.lo
 refine ⟨?_,?_,?_,?_,?_,?_,?_,?_,λm t ht=>h.txok m t (htx m t ht)⟩
 ·rw [he];exact zPO h.good (by unfold maxT at hn;omega)
 ·rw [he];show 1<=lo;omega
 ·rw [he];exact h2
 ·rw [he];exact λx hx=>h.past x ((zHJ lo s.l).subset hx)
 ·rw [he];exact h.giv
 ·obtain ⟨ks,hd,hl⟩:=h.dom
  obtain ⟨js,hj,hl'⟩:=zL6 hd n
  rw [he];exact ⟨js,hj,by omega⟩
 ·intro m t ht
  have:=h.num m t (htx m t ht)
  rw [he];exact this
 ·intro m t ht
  have h3:=h.tim m t (htx m t ht)
  rw [he] at ht ⊢
  exact ⟨hlo.all m t ht,h3.2⟩
theorem zMA {s:St} (h:Inv s) (hn:s.now<=maxT) (n:Int) {T:Int} (hT:(zBD s n).low<=T) (key:ByteArray):val (zBD s n).l key T=val s.l key T:=by
 obtain ⟨lo,hlo,h1,h2,he⟩:=zNo h hn n
 rw [he] at hT ⊢
 exact zPu h.good hT key
theorem zNZ {s:St} (h:Inv s) {ys:List Wri} (hp:pwhy s.l s.low ys (s.now+1)=0):Inv (putS s (putL s.l (s.now+1) ys,s.low,0)) where
 good:=zOR hp
 lo:=h.lo
 lonow:=by show s.low<=s.now+1;have:=h.lonow;omega
 past x hx:=by
  show x.At<=s.now+1
  rcases zHh.1 hx with h1|⟨w,_,rfl⟩
  ·have:=h.past x h1;omega
  ·exact Int.le_refl _
 giv:=h.giv
 dom:=h.dom
 num:=h.num
 tim n t ht:=by
  show s.low<=t.began/\t.began<=s.now+1
  have:=h.tim n t ht;omega
 txok:=h.txok
theorem zPz {s:St} (h:Inv s) {n:Int} {t:Tx} (ht:s.tx n=some t) {ys:List Wri} (hS:zEz t.wr ys):ys.length<=256:=by
 have hk:=h.txok n t ht
 obtain ⟨ks,hd,hl⟩:=hk.few
 have hlen:ys.length=ks.length:=by have:=(zMQ hd hk.keyed).2;rw [zIM hS] at this;exact this
 omega
theorem Inv.sorts {s:St} (h:Inv s) {n:Int} {t:Tx} (ht:s.tx n=some t):zEz t.wr (zG1 t.wr):=by
 have hk:=h.txok n t ht
 obtain ⟨ks,hd,hl⟩:=hk.few
 exact (zMQ hd hk.keyed).1
abbrev ans0:Ans:=⟨0,0,noB,false,[],[],0⟩
abbrev errA (e:Int):Ans:={ans0 with why:=e}
noncomputable def onTx (s:St) (n:Int) (f:Tx->St × Ans):St × Ans:=match s.tx n with
 |none=>(s,errA 11)
 |some t=>f t
noncomputable def zBp (s:St):St × Ans:=if 16<=cnt s.tx then (s,errA 3) else (zGf s,{ans0 with tx:=s.given+1})
noncomputable def getT (s:St) (n:Int) (key:ByteArray) (t:Tx):St × Ans:=
 if 256<key.size then (s,errA 4) else if 256<=t.reads.length then (s,errA 3)
 else (setTx s n (addR t (zKQ key)),{ans0 with val:=(tget s t key).1,is:=(tget s t key).2.1,why:=(tget s t key).2.2})
noncomputable def getD (s:St) (n:Int) (key:ByteArray):St × Ans:=onTx s n (getT s n key)
abbrev zAf (fr to:ByteArray):Spn:=⟨fr,to,false⟩
noncomputable def zHp (s:St) (t:Tx) (key:ByteArray):Option ByteArray:=ovl t.wr (λk=>val s.l k t.began) key
def cut (x:Spn) (f:ByteArray->Option ByteArray) (key:ByteArray):Option ByteArray:=if zBJ x key=true then f key else none
noncomputable def zKw (s:St) (n:Int) (fr to:ByteArray) (t:Tx):St × Ans:=
 if 256<=t.reads.length then (s,errA 3)
 else (setTx s n (addR t (zAf fr to)),{ans0 with pairs:=zJI (cut (zAf fr to) (zHp s t))})
noncomputable def zFv (s:St) (n:Int) (fr to:ByteArray):St × Ans:=onTx s n (zKw s n fr to)
open Classical in
noncomputable def zJd (s:St) (n:Int) (x:Wri) (t:Tx):St × Ans:=
 if zBk x then (s,errA 4) else if t.wr x.Key=none/\256<=cnt t.wr then (s,errA 3) else (setTx s n (putW t x),ans0)
noncomputable def zCI (s:St) (n:Int) (x:Wri):St × Ans:=onTx s n (zJd s n x)
open Classical in
noncomputable def zGy (s:St) (n:Int) (t:Tx):St × Ans:=
 if s.l.any (conf t)=true then (zBD s n,errA 10)
 else if (∀ k,t.wr k=none) then (zBD s n,{ans0 with time:=s.now})
 else if (vput s.l s.low (zG1 t.wr) (s.now+1)).2.2≠0 then (zBD s n,errA (vput s.l s.low (zG1 t.wr) (s.now+1)).2.2)
 else (zBD (putS s (vput s.l s.low (zG1 t.wr) (s.now+1))) n,{ans0 with done:=zG1 t.wr,time:=s.now+1})
noncomputable def zB2 (s:St) (n:Int):St × Ans:=onTx s n (zGy s n)
noncomputable def zGX (s:St) (n:Int):St × Ans:=onTx s n λ_=>(zBD s n,ans0)
noncomputable def doS (s:St) (x:yK):St × Ans:=
 if x.Kind=1 then zBp s else if x.Kind=2 then getD s x.Tx x.Key else if x.Kind=3 then zFv s x.Tx x.Key x.To
 else if x.Kind=4 then zCI s x.Tx ⟨x.Key,x.Val,false⟩ else if x.Kind=5 then zCI s x.Tx ⟨x.Key,noB,true⟩
 else if x.Kind=6 then zB2 s x.Tx else if x.Kind=7 then zGX s x.Tx else (s,errA 15)
inductive Eff (s:St) (x:yK):St->Ans->Prop
 |no (e:Int):e≠0->Eff s x s (errA e)
 |beg:x.Kind=1->cnt s.tx<16->Eff s x (zGf s) {ans0 with tx:=s.given+1}
 |get (t:Tx):x.Kind=2->s.tx x.Tx=some t->x.Key.size<=256->t.reads.length<256->Eff s x (setTx s x.Tx (addR t (zKQ x.Key))) {ans0 with val:=(zHp s t x.Key).getD noB,is:=(zHp s t x.Key).isSome}
 |scan (t:Tx):x.Kind=3->s.tx x.Tx=some t->t.reads.length<256->Eff s x (setTx s x.Tx (addR t (zAf x.Key x.To))) {ans0 with pairs:=zJI (cut (zAf x.Key x.To) (zHp s t))}
 |write (t:Tx) (y:Wri):(x.Kind=4/\y=⟨x.Key,x.Val,false⟩∨x.Kind=5/\y=⟨x.Key,noB,true⟩)->s.tx x.Tx=some t->¬ zBk y->(t.wr y.Key=none->cnt t.wr<256)->Eff s x (setTx s x.Tx (putW t y)) ans0
 |abort (t:Tx):x.Kind=7->s.tx x.Tx=some t->Eff s x (zBD s x.Tx) ans0
 |fail (t:Tx) (e:Int):x.Kind=6->s.tx x.Tx=some t->e≠0->Eff s x (zBD s x.Tx) (errA e)
 |empty (t:Tx):x.Kind=6->s.tx x.Tx=some t->s.l.any (conf t)=false->(∀ k,t.wr k=none)->Eff s x (zBD s x.Tx) {ans0 with time:=s.now}
 |comm (t:Tx) (ys:List Wri):x.Kind=6->s.tx x.Tx=some t->s.l.any (conf t)=false->zEz t.wr ys->(∃ k,t.wr k≠none)->pwhy s.l s.low ys (s.now+1)=0->Eff s x (zBD (putS s (putL s.l (s.now+1) ys,s.low,0)) x.Tx) {ans0 with done:=ys,time:=s.now+1}
theorem zOK {s:St} (h:Inv s) {n:Int} {t:Tx} (ht:s.tx n=some t) (key:ByteArray):tget s t key=((zHp s t key).getD noB,(zHp s t key).isSome,0):=by
 unfold tget zHp ovl
 cases hw:t.wr key with
 |some x=>
  simp only
  cases hg:x.Gone
  ·simp
  ·simp [(h.txok n t ht).bare key x hw hg]
 |none=>
  simp only
  have h0:vask s.l s.low t.began=0:=zGm.2 ⟨h.good,(h.tim n t ht).1⟩
  unfold vget
  rw [if_neg (by simp [h0]),zPi h.good]
theorem zKD {s:St} {x:yK} {f:Tx->St × Ans} (h:∀ t,s.tx x.Tx=some t->Eff s x (f t).1 (f t).2):Eff s x (onTx s x.Tx f).1 (onTx s x.Tx f).2:=by
 unfold onTx
 cases ht:s.tx x.Tx with
 |none=>exact .no 11 (by decide)
 |some t=>exact h t ht
theorem zKz {s:St} {x:yK} {y:Wri} (hk:x.Kind=4/\y=⟨x.Key,x.Val,false⟩∨x.Kind=5/\y=⟨x.Key,noB,true⟩):Eff s x (zCI s x.Tx y).1 (zCI s x.Tx y).2:=by
 refine zKD λt ht=>?_
 unfold zJd
 split
 ·exact .no 4 (by decide)
 ·rename_i h1
  split
  ·exact .no 3 (by decide)
  ·rename_i h2
   exact .write t y hk ht h1 λh3=>Nat.not_le.1 λh4=>h2 ⟨h3,h4⟩
theorem zPq {s:St} (h:Inv s) (hn:s.now+1<=maxT) (x:yK):Eff s x (doS s x).1 (doS s x).2:=by
 unfold doS
 split
 ·rename_i k
  unfold zBp
  split
  ·exact .no 3 (by decide)
  ·exact .beg k (by omega)
 split
 ·rename_i k
  refine zKD λt ht=>?_
  unfold getT
  split
  ·exact .no 4 (by decide)
  ·split
   ·exact .no 3 (by decide)
   ·rw [zOK h ht]
    exact .get t k ht (by omega) (by omega)
 split
 ·rename_i k
  refine zKD λt ht=>?_
  unfold zKw
  split
  ·exact .no 3 (by decide)
  ·exact .scan t k ht (by omega)
 split
 ·rename_i k;exact zKz (.inl ⟨k,rfl⟩)
 split
 ·rename_i k;exact zKz (.inr ⟨k,rfl⟩)
 split
 ·rename_i k
  refine zKD λt ht=>?_
  have hS:=h.sorts ht
  unfold zGy
  split
  ·exact .fail t 10 k ht (by decide)
  ·rename_i hc
   have hc:=Bool.eq_false_iff.2 hc
   split
   ·rename_i he;exact .empty t k ht hc he
   ·rename_i he
    split
    ·rename_i h3;exact .fail t _ k ht h3
    ·rename_i h3
     obtain ⟨h4,h5⟩:=zQG (Classical.not_not.1 h3)
     rw [h5]
     exact .comm t _ k ht hc hS (Classical.not_forall.1 he) h4
 split
 ·rename_i k;exact zKD λt ht=>.abort t k ht
 ·exact .no 15 (by decide)
theorem zNU {s s':St} {a:Ans} {x:yK} (h:Inv s) (hn:s.now+1<=maxT) (e:Eff s x s' a):Inv s':=by
 cases e with
 |no e _=>exact h
 |beg _ hc=>exact zK0 h hc
 |get t _ ht _ hl=>exact zJS h ht rfl (zNa (h.txok _ t ht) hl _)
 |scan t _ ht hl=>exact zJS h ht rfl (zNa (h.txok _ t ht) hl _)
 |write t y hk ht hy hl=>exact zJS h ht rfl (zP3 (h.txok _ t ht) hy (λhg=>by rcases hk with ⟨_,e⟩|⟨_,e⟩<;>rw [e] at hg ⊢;cases hg) hl)
 |abort t _ ht=>exact zGp h (by omega) _
 |fail t e _ ht _=>exact zGp h (by omega) _
 |empty t _ ht _ _=>exact zGp h (by omega) _
 |comm t ys _ ht _ _ _ hp=>exact zGp (zNZ h hp) hn _
theorem zPh {s s':St} {a:Ans} {x:yK} (e:Eff s x s' a):s.now<=s'.now/\s'.now<=s.now+1/\s.given<=s'.given/\s'.given<=s.given+1:=by
 have ho:∀ (u:St) n,(zBD u n).now=u.now/\(zBD u n).given=u.given:=λu n=>by unfold zBD zK3;split<;>exact ⟨rfl,rfl⟩
 cases e with
 |no e _=>omega
 |beg _ hc=>show s.now<=s.now/\s.now<=s.now+1/\s.given<=s.given+1/\s.given+1<=s.given+1;omega
 |get t _ ht _ hl=>show s.now<=s.now/\s.now<=s.now+1/\s.given<=s.given/\s.given<=s.given+1;omega
 |scan t _ ht hl=>show s.now<=s.now/\s.now<=s.now+1/\s.given<=s.given/\s.given<=s.given+1;omega
 |write t y hk ht hy hl=>show s.now<=s.now/\s.now<=s.now+1/\s.given<=s.given/\s.given<=s.given+1;omega
 |abort t _ ht=>rw [(ho _ _).1,(ho _ _).2];omega
 |fail t e _ ht _=>rw [(ho _ _).1,(ho _ _).2];omega
 |empty t _ ht _ _=>rw [(ho _ _).1,(ho _ _).2];omega
 |comm t ys _ ht _ _ _ hp=>rw [(ho _ _).1,(ho _ _).2];show s.now<=s.now+1/\s.now+1<=s.now+1/\s.given<=s.given/\s.given<=s.given+1;omega
end Go.Proofs.YtealcoghiaeiiaaGreatDoor.VG
set_option linter.unusedVariables false
namespace Go.Proofs.YtealcoghiaeiiaaGreatDoor.VG
open Go.VB Go.Proofs Go.RowKit
def zB1 (w:Wri) (o:List Pai × Bool) (p:Pai):List Pai × Bool:=
 ((if sLt p.Key w.Key=false/\o.2=false then o.1++[⟨w.Key,w.Val⟩] else o.1)++(if p.Key=w.Key then [] else [p]),o.2||!sLt p.Key w.Key)
def end8 (w:Wri) (o:List Pai × Bool):List Pai:=if o.2=true then o.1 else o.1++[⟨w.Key,w.Val⟩]
def zI1 (l:List Pai) (w:Wri):List Pai:=end8 w (l.foldl (zB1 w) ([],w.Gone))
def allL (l:List Pai) (ws:List Wri):List Pai:=ws.foldl zI1 l
def zJj (f:ByteArray->Option ByteArray) (w:Wri) (key:ByteArray):Option ByteArray:=if key=w.Key then (if w.Gone=true then none else some w.Val) else f key
def allF (f:ByteArray->Option ByteArray) (ws:List Wri):ByteArray->Option ByteArray:=ws.foldl zJj f
def zHM (w:Wri) (p:Pai):Bool:=decide (p.Key≠w.Key)
theorem zIi (w:Wri):∀ (l out:List Pai),l.foldl (zB1 w) (out,true)=(out++l.filter (zHM w),true)
 |[],out=>by simp
 |p::l,out=>by
  rw [List.foldl_cons]
  have:zB1 w (out,true) p=(out++(if p.Key=w.Key then [] else [p]),true):=by simp [zB1]
  rw [this,zIi w l]
  by_cases h:p.Key=w.Key
  ·simp [zHM,h]
  ·simp [zHM,h]
theorem zJl (w:Wri):∀ (l out:List Pai),Rise (λp:Pai=>p.Key) l->∃ a b,l=a++b/\(∀ p∈a,sLt p.Key w.Key=true)/\(∀ p∈b,sLt p.Key w.Key=false)/\
  l.foldl (zB1 w) (out,false)=(if b=[] then (out++a,false) else (out++a++[⟨w.Key,w.Val⟩]++b.filter (zHM w),true))
 |[],out,_=>⟨[],[],by simp⟩
 |p::l,out,h=>by
  obtain ⟨h1,h2⟩:=List.pairwise_cons.1 h
  rw [List.foldl_cons]
  by_cases c:sLt p.Key w.Key=true
  ·have hne:p.Key≠w.Key:=λe=>by rw [e] at c;exact Zg _ c
   have:zB1 w (out,false) p=(out++[p],false):=by simp [zB1,c,hne]
   rw [this]
   obtain ⟨a,b,e,ha,hb,hf⟩:=zJl w l (out++[p]) h2
   refine ⟨p::a,b,by rw [e];rfl,λq hq=>?_,hb,?_⟩
   ·rcases List.mem_cons.1 hq with e|e
    ·rw [e];exact c
    ·exact ha q e
   ·rw [hf];simp
  ·have c':sLt p.Key w.Key=false:=Bool.eq_false_iff.2 c
   have:zB1 w (out,false) p=(out++[⟨w.Key,w.Val⟩]++(if p.Key=w.Key then [] else [p]),true):=by simp [zB1,c']
   rw [this,zIi]
   refine ⟨[],p::l,rfl,by simp,λq hq=>?_,?_⟩
   ·rcases List.mem_cons.1 hq with e|e
    ·rw [e];exact c'
    ·cases hq':sLt q.Key w.Key with
     |false=>rfl
     |true=>exact absurd (zHL (h1 q e) hq') c
   ·by_cases h:p.Key=w.Key
    ·simp [zHM,h]
    ·simp [zHM,h]
theorem zMv {f:ByteArray->Option ByteArray} {l:List Pai} (h:zBb f l) (w:Wri):zBb (zJj f w) (zI1 l w):=by
 obtain ⟨hr,hm⟩:=h
 unfold zI1
 cases hg:w.Gone with
 |true=>
  rw [zIi]
  simp only [end8,List.nil_append,if_true]
  refine ⟨hr.sublist List.filter_sublist,λp=>?_⟩
  rw [List.mem_filter,hm]
  unfold zJj zHM
  by_cases hk:p.Key=w.Key
  ·simp [hk,hg]
  ·simp [hk]
 |false=>
  obtain ⟨a,b,e,ha,hb,hf⟩:=zJl w l [] hr
  rw [hf]
  have hmem:∀ p,p∈end8 w (if b=[] then ([]++a,false) else ([]++a++[⟨w.Key,w.Val⟩]++b.filter (zHM w),true))↔p∈a∨p=⟨w.Key,w.Val⟩∨(p∈b/\p.Key≠w.Key):=λp=>by
   split
   ·rename_i hb0;subst hb0;simp [end8]
   ·simp [end8,zHM]
  have hrise:end8 w (if b=[] then ([]++a,false) else ([]++a++[⟨w.Key,w.Val⟩]++b.filter (zHM w),true))=a++[⟨w.Key,w.Val⟩]++b.filter (zHM w):=by
   split
   ·rename_i hb0;subst hb0;simp [end8]
   ·simp [end8]
  rw [e] at hr
  obtain ⟨r1,r2,r3⟩:=List.pairwise_append.1 hr
  refine ⟨?_,λp=>?_⟩
  ·rw [hrise]
   refine List.pairwise_append.2 ⟨List.pairwise_append.2 ⟨r1,by simp,λx hx y hy=>?_⟩,r2.sublist List.filter_sublist,λx hx y hy=>?_⟩
   ·simp at hy;subst hy;exact ha x hx
   ·obtain ⟨hy1,hy2⟩:=List.mem_filter.1 hy
    rcases List.mem_append.1 hx with hx|hx
    ·exact r3 x hx y hy1
    ·simp at hx;subst hx
     exact zD1 (by rw [hb y hy1];decide) (by simpa [zHM] using hy2)
  ·rw [hmem]
   have hin:∀ q:Pai,(q∈a∨q∈b)↔f q.Key=some q.Val:=λq=>by rw [← hm,e,List.mem_append]
   unfold zJj
   by_cases hk:p.Key=w.Key
   ·rw [if_pos hk,if_neg (by rw [hg];decide)]
    constructor
    ·rintro (h1|h1|h1)
     ·have:=ha p h1;rw [hk] at this;exact absurd this (Zg _)
     ·rw [h1]
     ·exact absurd hk h1.2
    ·intro h1
     right;left
     obtain ⟨pk,pv⟩:=p
     simp at hk h1;subst hk;subst h1;rfl
   ·rw [if_neg hk,← hin]
    constructor
    ·rintro (h1|h1|h1)
     ·exact .inl h1
     ·rw [h1] at hk;exact absurd rfl hk
     ·exact .inr h1.1
    ·rintro (h1|h1)
     ·exact .inl h1
     ·exact .inr (.inr ⟨h1,hk⟩)
theorem zK5:∀ (ws:List Wri) {f:ByteArray->Option ByteArray} {l:List Pai},zBb f l->zBb (allF f ws) (allL l ws)
 |[],_,_,h=>h
 |w::ws,_,_,h=>zK5 ws (zMv h w)
theorem zKR:∀ (ws:List Wri) (f:ByteArray->Option ByteArray) (key:ByteArray),(∀ w∈ws,w.Key≠key)->allF f ws key=f key
 |[],_,_,_=>rfl
 |w::ws,f,key,h=>by
  show allF (zJj f w) ws key=_
  rw [zKR ws _ key λx hx=>h x (by simp [hx])]
  unfold zJj;rw [if_neg λe=>h w (by simp) e.symm]
theorem zNW:∀ (ws:List Wri) (f:ByteArray->Option ByteArray) (w:Wri),(zDn ws).Nodup->w∈ws->allF f ws w.Key=if w.Gone=true then none else some w.Val
 |[],_,_,_,h=>by simp at h
 |x::ws,f,w,hn,h=>by
  have hn':x.Key∉zDn ws/\(zDn ws).Nodup:=List.nodup_cons.1 hn
  show allF (zJj f x) ws w.Key=_
  rcases List.mem_cons.1 h with e|e
  ·subst e
   rw [zKR ws _ _ λy hy e=>hn'.1 (by rw [← e];exact List.mem_map.2 ⟨y,hy,rfl⟩)]
   unfold zJj;rw [if_pos rfl]
  ·exact zNW ws _ w hn'.2 e
theorem zOQ {wr:ByteArray->Option Wri} {ws:List Wri} (h:zEz wr ws) (hk:∀ k x,wr k=some x->x.Key=k) (f:ByteArray->Option ByteArray):allF f ws=ovl wr f:=by
 funext key
 unfold ovl
 cases hw:wr key with
 |some x=>
  have hxk:=hk key x hw
  have hx:x∈ws:=(h.2 x).2 (by rw [hxk];exact hw)
  rw [← hxk];exact zNW ws f x h.keys hx
 |none=>
  exact zKR ws f key λw hw' e=>by
   have:=(h.2 w).1 hw';rw [e,hw] at this;cases this
theorem zOA (l:List Pai) (w:Wri):(zI1 l w).length<=l.length+1:=by
 have:∀ (l:List Pai) (o:List Pai × Bool),(l.foldl (zB1 w) o).1.length+(if (l.foldl (zB1 w) o).2=true then 0 else 1)<=o.1.length+l.length+(if o.2=true then 0 else 1):=by
  intro l
  induction l with
  |nil=>intro o;simp only [List.foldl_nil,List.length_nil,Nat.add_zero];exact zV _
  |cons p l ih=>
   intro o
   rw [List.foldl_cons]
   refine zj (ih _) ?_
   obtain ⟨o1,o2⟩:=o
   cases hs:sLt p.Key w.Key<;>cases o2<;>simp [zB1,hs]<;>split<;>simp<;>omega
 have h:=this l ([],w.Gone)
 unfold zI1 end8
 simp only [List.length_nil,Nat.zero_add] at h
 split
 ·rename_i h1;rw [if_pos h1] at h;split at h<;>omega
 ·rename_i h1;rw [if_neg h1] at h;rw [yB,List.length_singleton];split at h<;>omega
theorem zO6 (key:ByteArray):zBJ (zAf noB noB) key=true:=by
 unfold zBJ
 simp only [Bool.false_eq_true,if_false,decide_true,Bool.true_or,Bool.and_true,Bool.not_eq_true']
 cases h:sLt key noB with
 |false=>rfl
 |true=>exact absurd h (by rw [zJ2];simp)
theorem zNS (f:ByteArray->Option ByteArray):cut (zAf noB noB) f=f:=by
 funext key;unfold cut;rw [if_pos (zO6 key)]
theorem zMF (fr to key:ByteArray):zGQ fr to key↔zBJ (zAf fr to) key=false:=by
 unfold zGQ zBJ
 simp only [Bool.false_eq_true,if_false]
 cases h1:sLt key fr<;>cases h2:sLt key to<;>by_cases h3:to=noB<;>simp [h3]
end Go.Proofs.YtealcoghiaeiiaaGreatDoor.VG
set_option linter.unusedVariables false
set_option linter.unusedSimpArgs false
namespace Go.Proofs.YtealcoghiaeiiaaGreatDoor.VG
open Go.VB Go.Proofs
def zAK (x13:Sl) (Kl3:Sl->World->Prop) (v:Value) (x16:Option Addr) (x81:Bool) (w:World):Prop:=
 (x81=true->(opE zA zC (zN 68 (.pointer x16) 0) w (λx83 w=>opE zA zY (zE 9 (.pointer x83)) w (λx84 w=>opE zA zC (zN 68 (.pointer x16) 1) w (λx85 w=>opE zA zY (zE 9 (.pointer x85)) w (λx86 w=>opE zA zM.v (yo 53 [(0,(.string x84)),(1,(.string x86))].toArray) w (λx87 w=>opE zA Sl.v (zl 22 1 [(0,(zM.v x87))].toArray) w (λx88 w=>opE zA Sl.v (Builtin.append_ #[22,22] 22 [(Sl.v x13),(Sl.v x88)].toArray) w (λx89 w=>Kl3 x89 w)))))))))/\(x81=false->(Kl3 x13 w))
def zBW (Ret:Sl->Int->World->Prop) (x12:Option Addr) (x68:Option Addr) (x13:Sl) (w:World) (Kl3:Sl->World->Prop):Prop:=
 opE zA (zJ5 id id) (Instr.next (.pointer x68) false 0) w (λr_5 w=>(r_5=none->(Cl zA 31 [(Sl.v x13),(.func (.func 32) #[] #[])].toArray w (λe w=>e=.returned (.tuple [].toArray)/\(Ret x13 0 w))))/\(∀ k v,r_5=some (k,v)->(opE zA (λp:Value × Value=>.tuple [p.1,p.2].toArray) (Instr.entry (.pointer x68)) w (λx71 w=>opE zA zC (ze 68 true (.tuple #[])) w (λx16 w=>opU zA (zI 68 (.pointer x16) x71.2) w (λw=>opE zA zC (zN 68 (.pointer x16) 2) w (λx73 w=>opE zA YR (zE 4 (.pointer x73)) w (λx74 w=>((!x74)=true->(opE zA yA.v (zE 85 (.pointer x12)) w (λx77 w=>opE zA zC (zN 68 (.pointer x16) 0) w (λx78 w=>opE zA zY (zE 9 (.pointer x78)) w (λx79 w=>Cl zA 30 [(yA.v x77),(.string x79)].toArray w (λe w=>∃ (r_6:Bool),e=.returned (.bool r_6)/\(zAK x13 Kl3 v x16 r_6 w)))))))/\((!x74)=false->(zAK x13 Kl3 v x16 false w))))))))))
def zEx (x0:Option Addr) (x1:Int) (x2:ByteArray) (x3:ByteArray) (w:World) (Ret:Sl->Int->World->Prop):Prop:=
 Cl zA 27 [(.pointer x0),(.int .i64 x1)].toArray w (λe w=>∃ (r:Option Addr) (r_1:Int),e=.returned (.tuple [(.pointer r),(.int .i64 r_1)].toArray)/\(opE zA zC (ze 77 true (.tuple #[])) w (λx10 w=>opU zA (zI 77 (.pointer x10) (.pointer r)) w (λw=>((r_1≠0)->(Ret Sl.none r_1 w))/\(¬ (r_1≠0)->(opE zA zC (zE 77 (.pointer x10)) w (λx28 w=>QL (.pointer x28)/\(opE zA zC (zN 81 (.pointer x28) 1) w (λx30 w=>opE zA Sl.v (zE 79 (.pointer x30)) w (λx31 w=>((256<=(x31.len:Int))->(Ret Sl.none 3 w))/\(¬ (256<=(x31.len:Int))->(opE zA yA.v (yo 85 [(0,(.string x2)),(1,(.string x3))].toArray) w (λx36 w=>opE zA zC (ze 85 true (.tuple #[])) w (λx12 w=>opU zA (zI 85 (.pointer x12) (yA.v x36)) w (λw=>regC w (λC1 w=>opC C1 zA zC (zE 77 (.pointer x10)) (λx37=>opC C1 zA zC (zE 77 (.pointer x10)) (λx38=>QL (.pointer x38)/\(opC C1 zA zC (zN 81 (.pointer x38) 1) (λx40=>opC C1 zA Sl.v (zE 79 (.pointer x40)) (λx41=>opC C1 zA yA.v (zE 85 (.pointer x12)) (λx42=>opE zA Sl.v (zl 79 1 [(0,(yA.v x42))].toArray) w (λx43 w=>C1 w/\(opE zA Sl.v (Builtin.append_ #[79,79] 79 [(Sl.v x41),(Sl.v x43)].toArray) w (λx44 w=>C1 w/\(QL (.pointer x37)/\(opC C1 zA zC (zN 81 (.pointer x37) 1) (λx46=>opU zA (zI 79 (.pointer x46) (Sl.v x44)) w (λw=>(regC w (λC2 w=>QL (.pointer x0)/\(opC C2 zA zC (zN 57 (.pointer x0) 0) (λx50=>opC C2 zA zP.v (zE 42 (.pointer x50)) (λx51=>opC C2 zA zC (zE 77 (.pointer x10)) (λx54=>QL (.pointer x54)/\(opC C2 zA zC (zN 81 (.pointer x54) 0) (λx56=>opC C2 zA (zU .u64) (zE 33 (.pointer x56)) (λx57=>Cl zA 8 [(zP.v x51),(.string x2),(.string x3),(.int .u64 x57)].toArray w (λe w=>∃ (r_2:Sl) (r_3:Int),e=.returned (.tuple [(Sl.v r_2),(.int .i64 r_3)].toArray)/\(C2 w/\(Cl zA 28 [(Sl.v r_2),(.func (.func 29) [].toArray [(.pointer x10)].toArray)].toArray w (λe w=>∃ (r_4:Sl),e=.returned (Sl.v r_4)/\(opE zA zC (zE 77 (.pointer x10)) w (λx64 w=>QL (.pointer x64)/\(opE zA zC (zN 81 (.pointer x64) 2) w (λx66 w=>opE zA Value.map (zE 78 (.pointer x66)) w (λx67 w=>opE zA zC (Instr.range 78 (.map x67)) w (λx68 w=>∃ (I:Sl->World->Prop) (μ:Sl->World->Nat),I r_4 w/\∀ (x13:Sl) w,I x13 w->zBW Ret x12 x68 x13 w (λx13' w'=>I x13' w'/\μ x13' w'<μ x13 w)))))))))))))))))))))))))))))))))))))))))))))))))
set_option maxRecDepth 100000 in
theorem zIX (x0:Option Addr) (x1:Int) (x2:ByteArray) (x3:ByteArray) (w:World) (Ret:Sl->Int->World->Prop) (H:zEx x0 x1 x2 x3 w Ret):Cl zA 13 [(.pointer x0),(.int .i64 x1),(.string x2),(.string x3)].toArray w (λe w'=>∃ (r0:Sl) (r1:Int),e=.returned (.tuple [(Sl.v r0),(.int .i64 r1)].toArray)/\Ret r0 r1 w'):=by
 unfold zEx at H
 refine zf 93 (zipE 0 [(.pointer x0),(.int .i64 x1),(.string x2),(.string x3)]) Tryz.func13 rfl rfl (by rfl) rfl ?_
 intro a g
 replace g:Sat [] 93 [(0,(.pointer x0)),(1,(.int .i64 x1)),(2,(.string x2)),(3,(.string x3))] a:=g
 refine zJ (zD (g.as_ rfl λ_ g=>g.as_ rfl λ_ g=>zL (tn (zJ (zD (g.mv rfl λ_ g=>g.mv rfl λ_ g=>g.call (zZ g zLs rfl rfl) H λe w H=>?_))))))
 obtain ⟨r,r_1,rfl,H⟩:=H
 refine ⟨_,rfl,λ_ g=>(g.mv rfl λ_ g=>g.pur (zb g rfl rfl) λ_ g=>g.pur (zb g rfl rfl) λ_ g=>g.op (QP) H λx10 w a H g=>g.opu (zT g rfl rfl) H λw a H g=>g.as_ rfl λ_ g=>zL (tn (zJ (zX (zJ (zD (g.mv rfl λ_ g=>g.pur (zFU g rfl rfl) λ_ g=>g.as_ rfl λ_ g=>zL (tn (za g rfl (λhc=>?_) (λhc=>?_))))))))))⟩
 ·replace H:=H.1 hc
  exact zJ (zD (g.mv rfl λ_ g=>g.as_ rfl λ_ g=>g.as_ rfl λ_ g=>zL (tn (zd (br (tr (Zn g rfl rfl rfl ⟨_,_,rfl,H⟩)))))))
 ·replace H:=H.2 hc
  refine zJ (zD (g.op (zO g rfl) H λx28 w a H g=>g.pur (zc g rfl H.1) λ_ g=>?_))
  replace H:=H.2
  refine g.op (zR g rfl) H λx30 w a H g=>g.op (zO g rfl) H λx31 w a H g=>g.purR (λw=>zAT g Tryz.underlying79 rfl) λ_ g=>g.pur (ZB g rfl rfl) λ_ g=>g.as_ rfl λ_ g=>zL (tn (za g rfl (λhc=>?_) (λhc=>?_)))
  ·replace H:=H.1 hc
   exact zJ (zD (g.as_ rfl λ_ g=>g.as_ rfl λ_ g=>zL (tn (zd (br (tr (Zn g rfl rfl rfl ⟨_,_,rfl,H⟩)))))))
  ·replace H:=H.2 hc
   refine zW (bn (tn (zJ (zD (g.mv rfl λ_ g=>g.mv rfl λ_ g=>g.op (Z2 g rfl) H λx36 w a H g=>g.op (QP) H λx12 w a H g=>g.opu (zT g rfl rfl) H λw a H g=>zL (tn (zJ (zNF 10 H 11 (λC1 w hC0 H=>g.ko 0 rfl hC0 (zO g rfl) H λx37 a H g=>g.ko 1 rfl hC0 (zO g rfl) H λx38 a H g=>g.kp 2 rfl hC0 (Q9 (zc g rfl H.1)) λ_ g=>?_)))))))))
   replace H:=H.2
   refine g.ko 3 rfl hC0 (zR g rfl) H λx40 a H g=>g.ko 4 rfl hC0 (zO g rfl) H λx41 a H g=>g.ko 5 rfl hC0 (zO g rfl) H λx42 a H g=>WK.on 6 rfl ?_
   intro K hK
   refine g.wop (Y4 g rfl) H λx43 w a H g=>hK _ _ ⟨H.1,?_⟩
   have hC1:=H.1
   replace H:=H.2
   refine WK.on 7 rfl ?_
   intro K hK
   refine g.wop (zBe g rfl) H λx44 w a H g=>hK _ _ ⟨H.1,?_⟩
   have hC2:=H.1
   replace H:=H.2
   refine g.kp 8 rfl hC2 (Q9 (zc g rfl H.1)) λ_ g=>?_
   replace H:=H.2
   refine g.ko 9 rfl hC2 (zR g rfl) H λx46 a H g=>WK.la 10 rfl ?_
   intro K hK
   refine g.wopu (zT g rfl rfl) H λw a H g=>hK _ _ (WK.nil (by kernel_rfl) ((tn (zJ (zNF 15 H 16 (λC2 w hC0 H=>g.kp 0 rfl hC0 (Q9 (zQ g rfl)) λ_ g=>g.kp 1 rfl hC0 (Q9 (zc g rfl H.1)) λ_ g=>?_))))))
   replace H:=H.2
   refine g.ko 2 rfl hC0 (zR g rfl) H λx50 a H g=>g.kp 4 rfl hC0 (Q9 (zQ g rfl)) λ_ g=>g.kp 5 rfl hC0 (Q9 (zQ g rfl)) λ_ g=>g.ko 3 rfl hC0 (zO g rfl) H λx51 a H g=>g.ko 6 rfl hC0 (zO g rfl) H λx54 a H g=>g.kp 7 rfl hC0 (Q9 (zc g rfl H.1)) λ_ g=>?_
   replace H:=H.2
   refine g.ko 8 rfl hC0 (zR g rfl) H λx56 a H g=>g.ko 9 rfl hC0 (zO g rfl) H λx57 a H g=>WK.on 10 rfl ?_
   intro K hK
   refine g.wcall (zZ g ent8 rfl rfl) H λe w H=>?_
   obtain ⟨r_2,r_3,rfl,H⟩:=H
   refine ⟨_,rfl,λ_ g=>(hK _ _ ⟨H.1,?_⟩)⟩
   have hC1:=H.1
   replace H:=H.2
   refine g.kp 11 rfl hC1 (Q9 (zQ g rfl)) λ_ g=>g.kp 12 rfl hC1 (Q9 (zb g rfl rfl)) λ_ g=>g.kp 13 rfl hC1 (Q9 (zb g rfl rfl)) λ_ g=>g.kp 14 rfl hC1 (Q9 (Y2 g rfl)) λ_ g=>g.kp 15 rfl hC1 (Q9 (Y2 g rfl)) λ_ g=>WK.nil (by kernel_rfl) ((tn (zJ (zD (g.mv rfl λ_ g=>g.pur (zFd g rfl rfl) λ_ g=>g.call (zZ g zRU rfl rfl) H λe w H=>?_)))))
   obtain ⟨r_4,rfl,H⟩:=H
   refine ⟨_,rfl,λ_ g=>(g.as_ rfl λ_ g=>zL (tn (zJ (zJ (zD (g.op (zO g rfl) H λx64 w a H g=>g.pur (zc g rfl H.1) λ_ g=>?_))))))⟩
   replace H:=H.2
   refine g.op (zR g rfl) H λx66 w a H g=>g.op (zO g rfl) H λx67 w a H g=>g.op (zJ6 g rfl) H λx68 w a H g=>zL (tn (zX ?_))
   obtain ⟨I_l3,μ_l3,h0,hb⟩:=H
   refine yH (ds:=[]) (N:=93) (σ:=Sl) (λs=>[(13,(Sl.v s)),(12,(.pointer x12)),(68,(.pointer x68))]) (λs w=>I_l3 s w) (λs w=>μ_l3 s w) r_4 h0 (g.wk) ?_
   intro x13 w a hI g
   try dsimp only at hI g
   obtain ⟨Kl3,hK_l3⟩:∃ K:Sl->World->Prop,K=(λx13' w'=>I_l3 x13' w'/\μ_l3 x13' w'<μ_l3 x13 w):=⟨_,rfl⟩
   have H:zBW Ret x12 x68 x13 w Kl3:=by rw [hK_l3];exact hb x13 w hI
   clear hb h0 hI
   unfold zBW at H
   refine zJ (zD (g.op (zLC g rfl) H λr_5 w a H g=>?_))
   rcases r_5 with _|⟨k,v⟩
   ·replace H:=H.1 rfl
    refine g.pur (zb g rfl rfl) λ_ g=>zL (tn (zJ (zg g rfl (λh=>nomatch h) (λ_=>z7 (te (te (be (tn (zJ (zD (g.mv rfl λ_ g=>g.call (zZ g zRd rfl rfl) H λe w H=>?_)))))))))))
    obtain ⟨rfl,H⟩:=H
    exact ⟨_,rfl,λ_ g=>(zL (tn (zJ (zD (g.mv rfl λ_ g=>g.as_ rfl λ_ g=>g.as_ rfl λ_ g=>zL (tn (zd (Zn g rfl rfl rfl ⟨_,_,rfl,H⟩))))))))⟩
   ·replace H:=H.2 _ _ rfl
    refine g.pur (zb g rfl rfl) λ_ g=>zL (tn (zJ (zg g rfl (λ_=>zW (tn (zX (zJ (zD (g.op (zJz g rfl) H λx71 w a H g=>g.pur (zb g rfl rfl) λ_ g=>g.op (QP) H λx16 w a H g=>g.opu (zT g rfl rfl) H λw a H g=>zL (tn (zJ (zD (g.op (zR g rfl) H λx73 w a H g=>g.op (zO g rfl) H λx74 w a H g=>g.pur (Z4 g rfl) λ_ g=>g.mv rfl λ_ g=>WL.join (ds:=[]) (N:=93) (σ:=Bool) (λs=>[(81,(.bool s)),(12,(.pointer x12)),(13,(Sl.v x13)),(16,(.pointer x16)),(68,(.pointer x68))]) (λs w=>zAK x13 Kl3 v x16 s w) 5 ?_ (λhr4=>?_))))))))))) (λh=>nomatch h))))
    ·intro x81 w a H g
     try dsimp only at H g
     unfold zAK at H
     refine zL (tn (zg g rfl (λhc=>?_) (λhc=>?_)))
     ·replace H:=H.1 hc
      refine zD (g.mv rfl λ_ g=>g.op (zR g rfl) H λx83 w a H g=>g.op (zO g rfl) H λx84 w a H g=>g.op (zR g rfl) H λx85 w a H g=>g.op (zO g rfl) H λx86 w a H g=>g.op (Z2 g rfl) H λx87 w a H g=>g.op (Y4 g rfl) H λx88 w a H g=>g.op (zBe g rfl) H λx89 w a H g=>g.as_ rfl λ_ g=>?_)
      rw [hK_l3] at H
      exact zL (bn (tn ⟨x89,g.wk,H⟩))
     ·replace H:=H.2 hc
      rw [hK_l3] at H
      exact zW (bn (tn ⟨x13,g.wk,H⟩))
    ·rcases Bool.eq_false_or_eq_true ((!x74)) with hbr4|hbr4
     ·replace H:=H.1 hbr4
      replace g:=g.bool (b:=true) (t:=76) rfl (hbr4)
      refine g.on (by rfl) (by rfl) (g.op (zO g rfl) H λx77 w a H g=>g.on (by rfl) (by rfl) (g.op (zR g rfl) H λx78 w a H g=>g.on (by rfl) (by rfl) (g.op (zO g rfl) H λx79 w a H g=>g.on (by rfl) (by rfl) (g.call (zZ g zQY rfl rfl) H λe w H=>?_))))
      obtain ⟨r_6,rfl,H⟩:=H
      exact ⟨_,rfl,λ_ g=>(g.pur (yD g rfl rfl) λ_ g=>hr4 r_6 _ _ H (g.wk))⟩
     ·replace H:=H.2 hbr4
      replace g:=g.bool (b:=false) (t:=76) rfl (hbr4)
      exact g.off (by rfl) (by rfl) (by decide) (λ_ g=>g.off (by rfl) (by rfl) (by decide) (λ_ g=>g.off (by rfl) (by rfl) (by decide) (λ_ g=>g.off (by rfl) (by rfl) (by decide) (λ_ g=>g.pur (yC g rfl rfl) λ_ g=>hr4 false _ _ H (g.wk)))))
def zDg (x0:zM) (x1:Option Addr) (w:World) (Ret:Bool->World->Prop):Prop:=
 opE zA zC (Instr.box 53 (zM.v x0)) w (λx2 w=>regC w (λC1 w=>opC C1 zA zC (zN 53 (.pointer x2) 0) (λx11=>opC C1 zA zC (zE 77 (.pointer x1)) (λx7=>QL (.pointer x7)/\(opC C1 zA zC (zN 81 (.pointer x7) 2) (λx9=>opC C1 zA Value.map (zE 78 (.pointer x9)) (λx10=>opC C1 zA zY (zE 9 (.pointer x11)) (λx12=>opC C1 zA (λp:zK × Bool=>.tuple [(zK.v p.1),(.bool p.2)].toArray) (Instr.lookup 78 (.map x10) (.string x12) true) (λx13=>opE zA zC (ze 68 true (.tuple #[])) w (λx4 w=>C1 w/\(opU zA (zI 68 (.pointer x4) (zK.v x13.1)) w (λw=>C1 w/\(Ret x13.2 w)))))))))))))
set_option maxRecDepth 100000 in
theorem zHT (x0:zM) (x1:Option Addr) (w:World) (Ret:Bool->World->Prop) (H:zDg x0 x1 w Ret):Cl zA 29 [(zM.v x0),(.pointer x1)].toArray w (λe w'=>∃ (r0:Bool),e=.returned (.bool r0)/\Ret r0 w'):=by
 unfold zDg at H
 refine zf 17 (zipE 0 [(zM.v x0),(.pointer x1)]) Tryz.func29 rfl rfl (by rfl) rfl ?_
 intro a g
 replace g:Sat [] 17 [(0,(zM.v x0)),(1,(.pointer x1))] a:=g
 refine zJ (zD (g.op (zBI g rfl) H λx2 w a H g=>g.as_ rfl λ_ g=>zL (tn (zJ (zNF 12 H 13 (λC1 w hC0 H=>g.ko 4 rfl hC0 (zR g rfl) H λx11 a H g=>g.ko 0 rfl hC0 (zO g rfl) H λx7 a H g=>g.kp 1 rfl hC0 (Q9 (zc g rfl H.1)) λ_ g=>?_))))))
 replace H:=H.2
 refine g.ko 2 rfl hC0 (zR g rfl) H λx9 a H g=>g.ko 3 rfl hC0 (zO g rfl) H λx10 a H g=>g.ko 5 rfl hC0 (zO g rfl) H λx12 a H g=>g.ko 6 rfl hC0 (zIC g rfl rfl) H λx13 a H g=>g.kp 7 rfl hC0 (Q9 (zQ g rfl)) λ_ g=>g.kp 8 rfl hC0 (Q9 (zb g rfl rfl)) λ_ g=>g.kp 9 rfl hC0 (Q9 (zb g rfl rfl)) λ_ g=>WK.on 10 rfl ?_
 intro K hK
 refine g.wop (QP) H λx4 w a H g=>hK _ _ ⟨H.1,?_⟩
 have hC1:=H.1
 replace H:=H.2
 refine WK.on 11 rfl ?_
 intro K hK
 refine g.wopu (zT g rfl rfl) H λw a H g=>hK _ _ ⟨H.1,?_⟩
 have hC2:=H.1
 replace H:=H.2
 exact g.kp 12 rfl hC2 (Q9 (Y2 g rfl)) λ_ g=>WK.nil (by kernel_rfl) ((tn (zJ (zD (g.mv rfl λ_ g=>g.as_ rfl λ_ g=>zL (tn (zd (zp g rfl rfl ⟨_,rfl,H⟩))))))))
def zDe (x0:zM) (x1:zM) (w:World) (Ret:Int->World->Prop):Prop:=
 opE zA zC (Instr.box 53 (zM.v x0)) w (λx2 w=>opE zA zC (Instr.box 53 (zM.v x1)) w (λx3 w=>opE zA zC (zN 53 (.pointer x2) 0) w (λx5 w=>opE zA zY (zE 9 (.pointer x5)) w (λx6 w=>opE zA zC (zN 53 (.pointer x3) 0) w (λx7 w=>opE zA zY (zE 9 (.pointer x7)) w (λx8 w=>Cl zA 33 [(.string x6),(.string x8)].toArray w (λe w=>∃ (r:Int),e=.returned (.int .i64 r)/\(Ret r w))))))))
set_option maxRecDepth 100000 in
theorem zHV (x0:zM) (x1:zM) (w:World) (Ret:Int->World->Prop) (H:zDe x0 x1 w Ret):Cl zA 32 [(zM.v x0),(zM.v x1)].toArray w (λe w'=>∃ (r0:Int),e=.returned (.int .i64 r0)/\Ret r0 w'):=by
 unfold zDe at H
 refine zf 10 (zipE 0 [(zM.v x0),(zM.v x1)]) Tryz.func32 rfl rfl (by rfl) rfl ?_
 intro a g
 replace g:Sat [] 10 [(0,(zM.v x0)),(1,(zM.v x1))] a:=g
 refine zJ (zD (g.op (zBI g rfl) H λx2 w a H g=>g.op (zBI g rfl) H λx3 w a H g=>g.as_ rfl λ_ g=>zL (tn (zJ (zD (g.op (zR g rfl) H λx5 w a H g=>g.op (zO g rfl) H λx6 w a H g=>g.op (zR g rfl) H λx7 w a H g=>g.op (zO g rfl) H λx8 w a H g=>g.call (zZ g zPT rfl rfl) H λe w H=>?_))))))
 obtain ⟨r,rfl,H⟩:=H
 exact ⟨_,rfl,λ_ g=>(g.as_ rfl λ_ g=>zL (tn (zd (zp g rfl rfl ⟨_,rfl,H⟩))))⟩
end Go.Proofs.YtealcoghiaeiiaaGreatDoor.VG
set_option linter.unusedVariables false
set_option linter.unusedSimpArgs false
namespace Go.VB
open Go.RowKit
section
variable {P:Program} {w:World} {α:Type} {c:α->List Value} {n e t base:Nat} {s:Sl}
theorem OwnS.cut {xs:List α} (hO:OwnS c n e base w s xs) (hc:∀ x,(c x).length=n) {i:Nat} (hi:i<=xs.length) (hpos:0<xs.length):OwnS c n e base w (s.sub 0 i n) (xs.take i):=by
 obtain ⟨g,cap,cur,rfl,hh,hcap,hm,hsz,htk,hb⟩:=hO.at hpos
 have hsmall:=hO.small
 simp only at hsmall
 have e1:(⟨some ⟨g,0,none⟩,xs.length,cap⟩:Sl).sub 0 i n=⟨some ⟨g,0,none⟩,i,cap⟩:=by
  unfold Sl.sub;simp [show ¬ cap=0 by omega,Addr.add]
 rw [e1]
 refine ⟨by simp;omega,by show i<=_;omega,?_,.inr ⟨g,cap,cur,rfl,hb,hh,by show i<=cap;omega,hm,hsz,?_⟩⟩
 ·rw [zGk hc,List.length_take];show min i xs.length*n=i*n;rw [Nat.min_eq_left hi]
 ·have h2:xs=xs.take i++xs.drop i:=(List.take_append_drop i xs).symm
  have h3:(xs.flatMap c).take (i*n)=(xs.take i).flatMap c:=by
   conv=>lhs;rw [h2,List.flatMap_append]
   have hl:((xs.take i).flatMap c).length=i*n:=by rw [zGk hc,List.length_take,Nat.min_eq_left hi]
   rw [List.take_append,List.take_of_length_le (by omega),hl];simp
  rw [← h3,← htk,List.take_take,Nat.min_eq_left (Nat.mul_le_mul_right _ hi)]
theorem zMx {xs:List α} (hO:OwnS c n e base w s xs) (hc:∀ x,(c x).length=n) (hu:P.underlying t=some (.slice e)) (hs:∀ w,(sizeOf e).run P w=.ok n w)
  {z:Value} (hz:∀ w,(zeroValue e).run P w=.ok z w) (hzn:z.cells.size=n) (hz1:z.cells.toList.all (·.oneCell')=true) (hn:0<n) {i:Nat} (hi:i<xs.length) {ty:TypeId} {k:Sl->World->Prop}
  (H:∀ w',OwnS c n e base w' (s.sub 0 i n) (xs.take i)->w.grownBy w' (Sl.v s).ownBlock->(Sl.v (s.sub 0 i n)).ownBlock=(Sl.v s).ownBlock->k (s.sub 0 i n) w'):
  opE P Sl.v (Instr.sliceAt t (Sl.v s) (some (.int .i64 (i:Int))) none none) w (λy w=>opE P (λ_:Unit=>.tuple #[]) (Builtin.clear_ #[t] ty [Sl.v y].toArray) w (λz w=>opE P Sl.v (Instr.sliceAt t (Sl.v s) none (some (.int .i64 (i:Int))) none) w k)):=by
 obtain ⟨g,cap,cur,rfl,hh,hcap,hm,hsz,htk,hb⟩:=hO.at (by omega)
 have hsmall:=hO.small
 simp only at hsmall
 have e1:(⟨some ⟨g,0,none⟩,xs.length,cap⟩:Sl).sub 0 i n=⟨some ⟨g,0,none⟩,i,cap⟩:=by
  unfold Sl.sub;simp [show ¬ cap=0 by omega,Addr.add]
 refine ⟨_,w,zPN hu hs (by show i<=xs.length;omega),?_⟩
 have e2:(⟨some ⟨g,0,none⟩,xs.length,cap⟩:Sl).sub i xs.length n=⟨some ⟨g,i*n,none⟩,xs.length - i,cap - i⟩:=by
  unfold Sl.sub
  simp only
  rw [if_neg (by omega)]
  simp [add_plain']
 rw [e2]
 obtain ⟨m,hm1⟩:∃ m,xs.length - i=m+1:=⟨xs.length - i - 1,by omega⟩
 let zs:List Value:=(Builtin.zeroCells z.cells (m+1)).toList
 have hzl:zs.length=(m+1)*n:=by show (Builtin.zeroCells z.cells (m+1)).toList.length=_;rw [Array.length_toList,size_zeroCells,hzn]
 have hz2:∀ v∈zs,v.oneCell'=true:=λv hv=>by
  have hv':v∈Builtin.zeroCells z.cells (m+1):=by simpa [zs] using hv
  unfold Builtin.zeroCells at hv'
  obtain ⟨j,hj,rfl⟩:=Array.mem_map.1 hv'
  have hlt:j % z.cells.size<z.cells.size:=Nat.mod_lt _ (by omega)
  rw [getElem!_pos z.cells _ hlt]
  rw [List.all_eq_true] at hz1
  exact hz1 _ (by simp)
 have hin:i*n+zs.length<=cur.size:=by
  rw [hzl,hsz,← Nat.add_mul];exact Nat.mul_le_mul_right _ (by omega)
 have hst:=run_storeCells_at (P:=P) g (i*n) e zs 0 cur w hh (by simpa using hin) hz2
 have hcl:(Builtin.clear_ #[t] ty [Sl.v ⟨some ⟨g,i*n,none⟩,xs.length - i,cap - i⟩].toArray).run P w=.ok (.tuple #[]) (w.setRow g (cur.toList.take (i*n)++zs++cur.toList.drop (i*n+zs.length)).toArray):=by
  have hst':(storeCells ⟨g,i*n,none⟩ (Builtin.zeroCells z.cells (m+1)).toList).run P w=.ok () (w.setRow g (cur.toList.take (i*n)++zs++cur.toList.drop (i*n+zs.length)).toArray):=by simpa using hst
  rw [hm1]
  simp only [Builtin.clear_,Sl.v]
  simp [run_underlying hu,hz w,hst']
 refine ⟨(),_,hcl,?_⟩
 refine ⟨_,_,zPf hu hs (by show i<=cap;omega),?_⟩
 refine H _ ?_ (zFD w g _) (by rw [e1];rfl)
 rw [e1]
 have h1:=hO.cut hc (i:=i) (by omega) (by omega)
 rw [e1] at h1
 refine ⟨h1.len,h1.small,h1.row.1,.inr ⟨g,cap,_,rfl,hb,zFj hh,by show i<=cap;omega,hm,?_,?_⟩⟩
 ·simp only [List.size_toArray,yB,List.length_take,List.length_drop,Array.length_toList]
  rw [← hsz];omega
 ·rcases h1.row.2 with ⟨h2,_⟩|⟨g',cap',cur',h2,_,h4,_,_,_,h8⟩
  ·cases h2
  ·injection h2 with h2 h3 h5
   injection h2 with h2
   injection h2 with h2
   subst h2
   rw [hh] at h4
   injection h4 with h4
   injection h4 with h4
   subst h4
   rw [← h8]
   show ((cur.toList.take (i*n)++zs++cur.toList.drop (i*n+zs.length))).take (i*n)=cur.toList.take (i*n)
   have hl:(cur.toList.take (i*n)).length=i*n:=by rw [List.length_take,Array.length_toList];omega
   rw [List.append_assoc,List.take_append,List.take_of_length_le (by omega),hl];simp
end
end Go.VB
namespace Go.Proofs.YtealcoghiaeiiaaGreatDoor.VG
open Go.VB Go.VB.Srt Go.Proofs Go.RowKit
abbrev zR8:zFY zA Q6 zBA 2 zM.cells zM.v:=zFY.agg ZF Yu (λ_=>rfl) (λ_=>rfl) (by decide)
theorem zJM {w:World} {x:Sl} {l:List Pai} (hd:zIE w x l) {fv:Value} {p:Pai->Bool} (hp:zF6 fv p l w) {k:Int->World->Prop}
  (H0:l.any p=false->∀ w',Bel w w'->k (-1) w')
  (H1:∀ (n:Nat) d,l[n]?=some d->p d=true->(l.take n).any p=false->∀ w',Bel w w'->k (n:Int) w'):
  Cl zA zEA [Sl.v x,fv].toArray w (λe w'=>∃ r0:Int,e=.returned (.int .i64 r0)/\k r0 w'):=by
 have dbig:=hd.big;have dcap:=hd.cap;have dlen:=hd.len
 refine zBK x _ w _ ?_
 unfold Y5
 refine ⟨λi w1=>∃ n:Nat,i=(n:Int)/\n<=l.length/\Bel w w1/\(l.take n).any p=false,λi _=>(x.len - i).toNat,⟨0,rfl,by omega,Bel.refl _,by simp⟩,?_⟩
 rintro i w1 ⟨n,rfl,hn,hb,hno⟩
 unfold QJ
 refine ⟨λhc=>?_,λhc=>?_⟩
 ·obtain ⟨d,hdn⟩:=getE (l:=l) (n:=n) (by omega)
  refine zE2 (hd.bel hb) Yu zAQ (by omega) (x:=d) (by simpa using hdn) λad hA=>?_
  refine zAs ZF d rfl hA rfl ?_
  refine hp d (List.mem_of_getElem? hdn) w1 _ hb λw2 b2=>⟨λht=>?_,λhf=>?_⟩
  ·exact H1 n d hdn ht hno w2 (hb.trans b2)
  ·rw [wr64 (by omega) (by omega)]
   exact ⟨⟨n+1,by omega,by omega,hb.trans b2,by rw [zJK hdn p hno];exact hf⟩,by dsimp only;omega⟩
 ·obtain rfl:n=l.length:=by omega
  rw [List.take_length] at hno
  exact H0 hno w1 hb
theorem zJm {α:Type} {l:List α} {p:α->Bool} (h:l.any p=false):l.filter (λx=>!p x)=l:=by
 rw [List.filter_eq_self]
 intro x hx
 cases hp:p x with
 |false=>rfl
 |true=>rw [List.any_eq_true.2 ⟨x,hx,hp⟩] at h;cases h
theorem zN2 {base:Nat} {w:World} {x:Sl} {l:List Pai} (hO:Q8 base w x l) {fv:Value} {p:Pai->Bool} {C:World->Prop} (hw:C w)
  (hC:∀ W W' row,C W->W.grownBy W' row->(∀ q,row=some q->(Sl.v x).ownBlock=some q)->C W') (hp:∀ W,C W->zF6 fv p l W) {k:Sl->World->Prop}
  (H:∀ r w',Q8 base w' r (l.filter λd=>!p d)->w.grownBy w' (Sl.v x).ownBlock->(∀ q,(Sl.v r).ownBlock=some q->(Sl.v x).ownBlock=some q)->k r w'):
  Cl zA zDc [Sl.v x,fv].toArray w (λe w'=>∃ r0:Sl,e=.returned (Sl.v r0)/\k r0 w'):=by
 have dsm:=hO.small;have dlen:=hO.len
 have hCb:∀ {W W'},C W->Bel W W'->C W':=λh hb=>hC _ _ none h (zh hb none) (λq e=>by cases e)
 refine zDi x _ w k ?_
 unfold Z0
 refine zJM (Q8.rd hO) (hp w hw) (λhno w1 b1=>⟨λ_=>?_,λh=>absurd rfl h⟩) λn d hd hpd hno w1 b1=>⟨λh=>by omega,λ_=>?_⟩
 ·exact H x w1 (by rw [zJm hno];exact hO.bel b1) (zh b1 _) λq h=>h
 have hnl:n<l.length:=(List.getElem?_eq_some_iff.1 hd).1
 obtain ⟨ad0,had,-⟩:=(Q8.rd hO).cells n d hd
 rw [wr64 (by omega) (by omega)]
 refine ⟨λa c W=>∃ (i j:Nat) (ys:List Pai),a=(i:Int)/\c=(j:Int)/\j<=l.length/\i<j/\Q8 base W x ys/\ys.length=l.length/\ys.take i=(l.take j).filter (λd=>!p d)/\ys.drop j=l.drop j/\C W/\w.grownBy W (Sl.v x).ownBlock,λ_ c _=>(x.len - c).toNat,
  ⟨n,n+1,l,rfl,by omega,by omega,by omega,hO.bel b1,rfl,?_,rfl,hCb hw b1,zh b1 _⟩,?_⟩
 ·rw [zB7 hd,List.filter_append,zJm hno];simp [hpd]
 rintro a c W ⟨i,j,ys,rfl,rfl,hj,hij,hOW,hyl,htk,hdr,hCW,hg⟩
 unfold YY
 refine ⟨λhc=>?_,λhc=>?_⟩
 ·obtain ⟨e,he⟩:=getE (l:=l) (n:=j) (by omega)
  have hye:ys[j]?=some e:=by
   have h1:=congrArg (λm=>m[0]?) hdr
   simpa [he] using h1
  have hfs:(l.take (j+1)).filter (λd=>!p d)=(l.take j).filter (λd=>!p d)++(if p e=true then [] else [e]):=by
   rw [zB7 he,List.filter_append];cases hpe:p e<;>simp [hpe]
  refine zE2 (Q8.rd hOW) Yu zAQ (by omega) (x:=e) (by simpa using hye) λad hA=>?_
  refine zAs ZF e rfl hA rfl ?_
  refine zBo zHD rfl ZF (cs:=e.cells) rfl rfl rfl λB W1 b2 hX hB=>?_
  refine zAs ZF e rfl hX.at rfl ?_
  have hC1:=hCb hCW b2
  refine hp W1 hC1 e (List.mem_of_getElem? he) W1 _ (Bel.refl _) λW2 b3=>⟨λhn=>?_,λhn=>?_⟩
  ·have hpe:p e=false:=by simpa using hn
   have hC2:=hCb hC1 b3
   have hO2:=(hOW.bel b2).bel b3
   refine zAs ZF e rfl (hX.bel b3).at rfl ?_
   have hR2:=Q8.rd hO2
   obtain ⟨y0,hy0⟩:=getE (l:=ys) (n:=i) (by omega)
   have had2:x.a=some ad0:=had
   refine ⟨_,W2,zJO Yu zAQ had2 (by omega) (by omega),?_⟩
   obtain ⟨W3,hs3,hO3,hg3⟩:=zJe zR8 hO2 (i:=i) (by omega) e had2
   refine ⟨W3,by simpa using hs3,?_⟩
   unfold yr
   rw [wr64 (by omega) (by omega),wr64 (by omega) (by omega)]
   refine ⟨⟨i+1,j+1,ys.set i e,by omega,by omega,by omega,by omega,hO3,by simp [hyl],?_,?_,hC _ _ _ hC2 hg3 (λq h=>h),zS (zS hg (zh (b2.trans b3) _)) hg3⟩,by dsimp only;omega⟩
   ·rw [hfs,← htk,List.take_set,zB7 hy0,if_neg (by simp [hpe])]
    rw [List.set_append_right _ _ (by rw [List.length_take];exact Nat.min_le_left _ _),List.length_take,Nat.min_eq_left (by omega)];simp
   ·rw [List.drop_set_of_lt (by omega),← List.drop_drop,← List.drop_drop,hdr]
  ·have hpe:p e=true:=by simpa using hn
   unfold yr
   rw [wr64 (by omega) (by omega)]
   refine ⟨⟨i,j+1,ys,rfl,by omega,by omega,by omega,(hOW.bel b2).bel b3,hyl,?_,?_,hCb hC1 b3,zS hg (zh (b2.trans b3) _)⟩,by dsimp only;omega⟩
   ·rw [hfs,htk,if_pos hpe,List.append_nil]
   ·rw [← List.drop_drop,← List.drop_drop,hdr]
 ·obtain rfl:j=l.length:=by omega
  rw [List.take_length] at htk
  refine zMx hOW (λ_=>rfl) Yu zAQ zL9 rfl rfl (by decide) (by omega) λW' hO' hg' hb'=>?_
  exact H _ W' (by rw [← htk];exact hO') (zS hg hg') λq hq=>by rw [← hb'];exact hq
end Go.Proofs.YtealcoghiaeiiaaGreatDoor.VG
set_option linter.unusedVariables false
namespace Go.Proofs.YtealcoghiaeiiaaGreatDoor.VG
open Go.VB Go.Proofs Go.RowKit
theorem zL5 {ρ:Own} {w:World} {b:Nat} {s:St} {vs:Sl} {mb:Nat} {g:Int->Gh} (m:zCF ρ w b s vs mb g) (hl:s.l.length<=2932031007402) {k:zP->World->Prop}
  (H:∀ r w',Y9 w.heap.size w' r s.l->Bel w w'->k ⟨r,s.low⟩ w'):
  Cl zA zGu [.pointer (ptrA b)].toArray w (λe w'=>∃ r0:zP,e=.returned (zP.v r0)/\k r0 w'):=by
 refine zGh (ptrA b) w k ?_
 unfold zCe
 refine zD6 Zy λB w1 b1 hB hB0=>?_
 refine zKN _ ⟨λh=>(nomatch h),λ_=>?_⟩
 intro w2 b2
 have b02:=b1.trans b2
 have m2:=m.bel b02
 have hB2:=hB.bel b2
 have hlist:∀ W,Bel w2 W->W.cell? (((⟨b,0,none⟩:Addr).add 0).add 0)=some (Sl.v vs):=λW hW=>by rw [zFM];exact (m2.bel hW).row.at.fld rfl
 have hlow:∀ W,Bel w2 W->W.cell? (((⟨b,0,none⟩:Addr).add 0).add 1)=some (.int .u64 s.low):=λW hW=>by rw [zFM];exact (m2.bel hW).row.at.fld rfl
 have fin:∀ W r,Bel w2 W->Y9 w.heap.size W r s.l->opE zA zP.v (yo zx [(0,(Sl.v r)),(1,(.int .u64 s.low))].toArray) W (λx17 w=>opU zA (zI zx (.pointer (ptrA B)) (zP.v x17)) w (λw=>opR zA zP.v zx (ptrA B) w (λq=>k q w))):=by
  intro W r hW hO
  refine ⟨⟨r,s.low⟩,W,by kernel_rfl,?_⟩
  have hBW:=hB2.bel hW
  exact zJX hBW rfl λW' g'=>H r W' (hO.kept g' (.inr (OwnS.ne_row hO hBW (by decide)))) ((b02.trans hW).grown g' λq hq=>by cases hq;exact hB0)
 have wk:∀ {W W':World} {r:Sl},Bel w W->Y9 W.heap.size W' r s.l->Y9 w.heap.size W' r s.l:=λ{W W' r} hb h=>by
  refine ⟨h.len,h.small,h.row.1,?_⟩
  rcases h.row.2 with h1|⟨g,cap,cur,h1,h2,h3⟩
  ·exact .inl h1
  ·exact .inr ⟨g,cap,cur,h1,zj hb.le h2,h3⟩
 refine ⟨trivial,⟨_,λW=>yX _ _,⟨_,λW=>z9 _ _,⟨trivial,⟨_,λW=>yX _ _,⟨_,λW=>Zj _ _,?_⟩⟩⟩⟩⟩⟩
 constructor
 ·refine zAF z5 vs (hlist w2 (Bel.refl _)) ⟨?_,?_⟩
  ·refine zH7 m2.vers hl λr W hO hW=>?_
   refine zAF yE s.low (hlow W hW) ?_
   exact fin W r hW (wk b02 hO)
  ·refine zAF yE s.low (hlow w2 (Bel.refl _)) ?_
   exact zH7 m2.vers hl λr W hO hW=>fin W r hW (wk b02 hO)
 ·refine zAF yE s.low (hlow w2 (Bel.refl _)) ?_
  refine zAF z5 vs (hlist w2 (Bel.refl _)) ?_
  exact zH7 m2.vers hl λr W hO hW=>fin W r hW (wk b02 hO)
end Go.Proofs.YtealcoghiaeiiaaGreatDoor.VG
set_option linter.unusedVariables false
set_option linter.unusedSimpArgs false
namespace Go.VB
open Go.RowKit
section
variable {P:Program} {w:World} {α:Type} {c:α->List Value} {n e t bytes base:Nat}
theorem zPk {s:Sl} {xs:List α} {x:α} {vx:Value} (hO:OwnS c n e base w s xs) (hc:∀ x,(c x).length=n) (h1:∀ x,(c x).all (·.oneCell')=true) (hn:0<n)
  (hu:P.underlying t=some (.slice e)) {z:Value} (hi:(P.info? e).map (λi=>(i.zero,i.size,i.bytes))=some (some z,n,bytes)) (hz:z.cells.size=n) (hby:0<bytes)
  (hbs:∀ w,(zl t 1 [(0,vx)].toArray).run P w=.ok (Sl.v ⟨some ⟨w.heap.size,0,none⟩,1,1⟩) (w.alloc (.cells (c x).toArray e)))
  (hbw:base<=w.heap.size) (room:(xs.length+1)*bytes<=140737488355328) {J:World->Prop} (hJ:∀ w',Bel w w'->J w') {k:Sl->World->Prop} {ty:TypeId}
  (H:∀ s' w',OwnS c n e base w' s' (xs++[x])->w.grownBy w' (Sl.v s).ownBlock->(∀ q,(Sl.v s').ownBlock=some q->(Sl.v s).ownBlock=some q∨w.heap.size<=q)->k s' w'):
  opE P Sl.v (zl t 1 [(0,vx)].toArray) w (λy w=>J w/\opE P Sl.v (Builtin.append_ #[t,t] ty [Sl.v s,Sl.v y].toArray) w k):=by
 obtain ⟨y,w1,hr,h2⟩:=zNp (k:=k) (ty:=ty) hO hc h1 hn hu hi hz hby hbs hbw room H
 refine ⟨y,w1,hr,hJ w1 ?_,h2⟩
 have:=(hbs w).symm.trans hr
 injection this with _ e1
 rw [← e1];exact Bel.alloc _ _
end
end Go.VB
namespace Go.Proofs.YtealcoghiaeiiaaGreatDoor.VG
open Go.VB Go.VB.Srt Go.Proofs Go.RowKit
theorem zKx {l:List Ver} {key:ByteArray}:∀ (i:Nat) (x:Ver),l[i]?=some x->x.Key=key->∃ j y,l[j]?=some y/\y.Key=key/\∀ m z,j=m+1->l[m]?=some z->z.Key≠key
 |0,x,h,hk=>⟨0,x,h,hk,λm z e=>by omega⟩
 |i+1,x,h,hk=>by
  obtain ⟨y,hy⟩:=getV (l:=l) (n:=i) (by have:=(List.getElem?_eq_some_iff.1 h).1;omega)
  by_cases hyk:y.Key=key
  ·exact zKx i y hy hyk
  ·exact ⟨i+1,x,h,hk,λm z e hz=>by
    obtain rfl:m=i:=by omega
    rw [hy] at hz;cases hz;exact hyk⟩
theorem zNg {fr to key:ByteArray} {l:List Ver} {T:Int} {p:Pai}:p∈one fr to key (sees l key T)↔p.Key=key/\cut (zAf fr to) (λk=>val l k T) key=some p.Val:=by
 have h0:=zMF fr to key
 show p∈one fr to key (sees l key T)↔p.Key=key/\(if zBJ (zAf fr to) key=true then val l key T else none)=some p.Val
 unfold one
 by_cases ho:zGQ fr to key
 ·rw [if_pos ho,if_neg (by rw [h0.1 ho];decide)];simp
 ·have hs:zBJ (zAf fr to) key=true:=by
   cases h:zBJ (zAf fr to) key with
   |true=>rfl
   |false=>exact absurd (h0.2 h) ho
  rw [if_neg ho,if_pos hs]
  unfold val
  cases hse:sees l key T with
  |none=>simp
  |some x=>
   simp only
   cases hg:x.Gone
   ·simp only [Bool.false_eq_true,if_false,List.mem_singleton,Option.some.injEq]
    constructor
    ·rintro rfl;exact ⟨rfl,rfl⟩
    ·rintro ⟨h1,h2⟩;obtain ⟨a,b⟩:=p;simp at h1 h2;rw [h1,h2]
   ·simp
theorem zJi {l:List Ver} (hs:l.Pairwise vlt) (fr to:ByteArray) (T:Int):zBb (cut (zAf fr to) λk=>val l k T) (zBq l fr to T l.length):=by
 have hp:∀ i p,p∈pick l fr to T i->∃ x,l[i]?=some x/\(∀ j y,i=j+1->l[j]?=some y->y.Key≠x.Key)/\p.Key=x.Key/\cut (zAf fr to) (λk=>val l k T) p.Key=some p.Val:=λi p hp=>by
  unfold pick at hp
  cases hx:l[i]? with
  |none=>rw [hx] at hp;cases hp
  |some x=>
   rw [hx] at hp
   simp only at hp
   split at hp
   ·cases hp
   ·rename_i hn
    obtain ⟨h1,h2⟩:=zNg.1 hp
    exact ⟨x,rfl,λj y e hy hk=>hn ⟨j,y,e,hy,hk⟩,h1,by rw [h1];exact h2⟩
 refine ⟨?_,λp=>?_⟩
 ·unfold zBq
  rw [Rise,List.pairwise_flatMap]
  refine ⟨λi _=>?_,?_⟩
  ·have:=zMd l fr to T i
   match pick l fr to T i,this with
   |[],_=>simp
   |[a],_=>simp
  ·refine List.pairwise_lt_range.imp λ{i j} hij p hpi q hqj=>?_
   obtain ⟨x,hx,hx1,hx2,_⟩:=hp i p hpi
   obtain ⟨y,hy,hy1,hy2,_⟩:=hp j q hqj
   rw [hx2,hy2]
   refine zMy hs hij hx hy λe=>?_
   obtain ⟨z,hz⟩:=getV (l:=l) (n:=j - 1) (by have:=(List.getElem?_eq_some_iff.1 hy).1;omega)
   have hzy:=hy1 (j - 1) z (by omega) hz
   rcases Nat.lt_or_ge i (j - 1) with h|h
   ·have h1:=zLa hs h hx hz
    have h2:=zLa hs (show j - 1<j by omega) hz hy
    rw [← e] at h2 hzy
    exact h1 (zD1 h2 (λe'=>hzy e'.symm))
   ·obtain rfl:i=j - 1:=by omega
    rw [hx] at hz;cases hz;exact hzy e
 ·constructor
  ·intro h
   obtain ⟨i,_,hi⟩:=List.mem_flatMap.1 h
   obtain ⟨x,_,_,_,h4⟩:=hp i p hi
   exact h4
  ·intro h
   have hsome:∃ x,sees l p.Key T=some x:=by
    have h':(if zBJ (zAf fr to) p.Key=true then val l p.Key T else none)=some p.Val:=h
    split at h'
    ·unfold val at h'
     cases hse:sees l p.Key T with
     |none=>rw [hse] at h';cases h'
     |some x=>exact ⟨x,rfl⟩
    ·cases h'
   obtain ⟨x,hx⟩:=hsome
   obtain ⟨h1,h2,_⟩:=zGo hx
   obtain ⟨i,hi⟩:=List.getElem?_of_mem h1
   obtain ⟨j,y,hj,hyk,hfirst⟩:=zKx i x hi h2
   refine List.mem_flatMap.2 ⟨j,List.mem_range.2 (List.getElem?_eq_some_iff.1 hj).1,?_⟩
   unfold pick
   rw [hj]
   simp only
   rw [if_neg]
   ·exact zNg.2 ⟨hyk.symm,by rw [hyk];exact h⟩
   ·rintro ⟨m,z,hm,hz,hzk⟩
    exact hfirst m z hm hz (hzk.trans hyk)
def zGM (x:Spn) (y:Wri):Option Pai:=if y.Gone=false/\zBJ x y.Key=true then some ⟨y.Key,y.Val⟩ else none
def kltP (a b:Pai):Bool:=sLt a.Key b.Key
theorem zPI:Srt.SWO kltP where
 irr x:=by
  cases h:kltP x x with
  |false=>rfl
  |true=>exact absurd h (Zg x.Key)
 neg x y z h:=by
  unfold kltP at*
  by_cases h1:sLt x.Key y.Key=true
  ·exact .inl h1
  ·right
   by_cases h2:x.Key=y.Key
   ·rw [← h2];exact h
   ·exact zHL (zD1 h1 h2) h
 asy x y h:=by
  cases h1:kltP y x with
  |false=>rfl
  |true=>exact absurd h1 (zG0 h)
theorem zPR (a b:Pai) (w:World) {k:Int->World->Prop} (H:∀ w',Bel w w'->k (cmpS a.Key b.Key) w'):Cl zA zDC [zM.v a,zM.v b].toArray w (λe w'=>∃ r0:Int,e=.returned (.int .i64 r0)/\k r0 w'):=by
 refine zHV a b w k ?_
 unfold zDe
 refine zAi (cs:=a.cells) rfl λB w1 b1 hA _=>?_
 refine zAi (cs:=b.cells) rfl λC w2 b2 hB _=>?_
 refine yO Zs zn (hA.bel b2).at a.Key rfl ?_
 refine yO Zs zn hB.at b.Key rfl ?_
 exact zH9 a.Key b.Key w2 (H w2 (b1.trans b2))
theorem zM3:SoCmpFunc_api_Pair.Cmps (.func (.func zDC) #[] #[]) kltP:=λw x y=>
 ⟨cmpS x.Key y.Key,⟨zDC,[],[],rfl,zRk,λw' _=>(zPR x y w' (k:=λr W=>r=cmpS x.Key y.Key/\Bel w' W) λW hb=>⟨rfl,hb⟩).mono λe W ⟨r,he,hr,hb⟩=>⟨by rw [he,hr],hb⟩⟩,by rw [zLS];exact Iff.rfl⟩
theorem zPF (p:Pai) {w:World} {B tb wb:Nat} {rs:Sl} {t:Tx} (hB:Row w B [.pointer (ptrA tb)] zEy) (hT:Row w tb [.int .u64 t.began,Sl.v rs,.map (some wb)] zAq) (hM:Zp zY zK.v w wb t.wr)
  {k:Bool->World->Prop} (H:∀ w',Bel w w'->k (t.wr p.Key).isSome w'):Cl zA zFS [zM.v p,.pointer (ptrA B)].toArray w (λe w'=>∃ r0:Bool,e=.returned (.bool r0)/\k r0 w'):=by
 refine zHT p (ptrA B) w k ?_
 unfold zDg
 refine zAi (cs:=p.cells) rfl λX w1 b1 hX _=>?_
 refine ⟨Bel w1,λu bu=>⟨bu,?_⟩⟩
 refine zFa Zs ?_
 refine zCk zA4 (ptrA tb) (λW hW=>((hB.bel b1).bel hW).cell) ⟨trivial,?_⟩
 refine zFa zAG ?_
 refine zCk Qd (some wb) (λW hW=>((hT.bel b1).bel hW).at.fld rfl) ?_
 refine zCk zn p.Key (λW hW=>(hX.bel hW).at.fld rfl) ?_
 refine zMX (z:=zMb) (λW hW=>(hM.bel b1).bel hW) zIJ YS zG3 p.Key ?_
 refine zD6 zA5 λC w2 b2 hZ hC=>?_
 refine ⟨bu.trans b2,?_⟩
 refine zIF Q7 hZ rfl rfl rfl λw3 hZ3 g3=>?_
 have b13:Bel w1 w3:=(bu.trans b2).grown g3 λr hr=>by cases hr;have:=bu.le;omega
 exact ⟨b13,H w3 (b1.trans b13)⟩
theorem zN3 {s:St} (hI:Inv s) {n:Int} {t:Tx} (ht:s.tx n=some t) (fr to:ByteArray) {ks:List ByteArray} (hd:Doms t.wr ks) {ys:List Pai}
  (hp:ys.Perm ((zBq s.l fr to t.began s.l.length).filter (λd=>!(t.wr d.Key).isSome)++(ks.filterMap t.wr).filterMap (zGM (zAf fr to)))) (hl:ys.Pairwise (λx y=>Le kltP x y)):
  zBb (cut (zAf fr to) (zHp s t)) ys:=by
 have hk:=(hI.txok n t ht).keyed
 obtain ⟨s1,s2⟩:=zJi hI.good.sorted fr to t.began
 generalize zBq s.l fr to t.began s.l.length=L at hp s1 s2
 have m2:∀ p,p∈(ks.filterMap t.wr).filterMap (zGM (zAf fr to))↔∃ x,t.wr p.Key=some x/\x.Gone=false/\zBJ (zAf fr to) p.Key=true/\x.Val=p.Val:=λp=>by
  rw [List.mem_filterMap]
  constructor
  ·rintro ⟨x,hx,hpx⟩
   obtain ⟨key,_,hkx⟩:=List.mem_filterMap.1 hx
   unfold zGM at hpx
   split at hpx
   ·rename_i h;cases hpx
    have:=hk _ _ hkx
    subst this
    exact ⟨x,hkx,h.1,h.2,rfl⟩
   ·cases hpx
  ·rintro ⟨x,h1,h2,h3,h4⟩
   have hxk:=hk _ _ h1
   refine ⟨x,List.mem_filterMap.2 ⟨p.Key,(hd.2 _).2 ⟨x,h1⟩,h1⟩,?_⟩
   unfold zGM
   rw [if_pos ⟨h2,by rw [hxk];exact h3⟩,hxk,h4]
 have hmem:∀ p,p∈ys↔cut (zAf fr to) (zHp s t) p.Key=some p.Val:=λp=>by
  rw [hp.mem_iff,List.mem_append,List.mem_filter,s2,m2]
  unfold cut zHp ovl
  by_cases hsp:zBJ (zAf fr to) p.Key=true
  ·rw [if_pos hsp,if_pos hsp]
   cases hw:t.wr p.Key with
   |none=>simp
   |some x=>
    simp only [Option.isSome_some,Bool.not_true,Bool.false_eq_true,and_false,false_or,Option.some.injEq]
    constructor
    ·rintro ⟨y,rfl,h1,_,h2⟩;rw [if_neg (by rw [h1];decide),h2]
    ·intro h
     split at h
     ·cases h
     ·rename_i hg
      exact ⟨x,rfl,by simpa using hg,hsp,Option.some.inj h⟩
  ·rw [if_neg hsp,if_neg hsp]
   simp only [reduceCtorEq,false_and,false_or,iff_false]
   rintro ⟨x,_,_,h3,_⟩;exact hsp h3
 have hnd:(L.filter (λd=>!(t.wr d.Key).isSome)++(ks.filterMap t.wr).filterMap (zGM (zAf fr to))).Pairwise (λx y:Pai=>x.Key≠y.Key):=by
  refine List.pairwise_append.2 ⟨(s1.sublist List.filter_sublist).imp λ{a b} h e=>by have h':sLt a.Key b.Key=true:=h;rw [e] at h';exact Zg _ h',?_,λx hx y hy e=>?_⟩
  ·rw [List.pairwise_filterMap,List.pairwise_filterMap]
   refine hd.1.imp λ{a b} hab x hx y hy p hpx q hqy e=>hab ?_
   unfold zGM at hpx hqy
   split at hpx
   ·split at hqy
    ·cases hpx;cases hqy
     have:=hk a x hx;have:=hk b y hy
     simp_all
    ·cases hqy
   ·cases hpx
  ·obtain ⟨_,h1⟩:=List.mem_filter.1 hx
   obtain ⟨z,h2,_⟩:=(m2 y).1 hy
   rw [e,h2] at h1;simp at h1
 have hnd':ys.Pairwise (λx y=>x.Key≠y.Key):=(hp.pairwise_iff (λ{x y} h=>h.symm)).2 hnd
 refine ⟨(hl.and hnd').imp λ{x y} h12=>?_,hmem⟩
 cases h:sLt x.Key y.Key with
 |true=>rfl
 |false=>
  have h3:sLt y.Key x.Key=true:=zD1 (by rw [h];decide) h12.2
  have h4:sLt y.Key x.Key=false:=h12.1
  rw [h3] at h4;cases h4
end Go.Proofs.YtealcoghiaeiiaaGreatDoor.VG
set_option linter.unusedVariables false
set_option linter.unusedSimpArgs false
namespace Go.Proofs.YtealcoghiaeiiaaGreatDoor.VG
open Go.VB Go.VB.Srt Go.Proofs Go.RowKit
theorem zP1 {ρ:Own} {w:World} {b:Nat} {s:St} (h:Mgr ρ w b s) (hI:Inv s) (n:Int) (fr to:ByteArray) {k:Sl->Int->World->Prop}
  (H0:s.tx n=none->∀ w',Bel w w'->k Sl.none 11 w')
  (H1:∀ t,s.tx n=some t->256<=t.reads.length->∀ w',Bel w w'->k Sl.none 3 w')
  (H2:∀ t r ys ρ' w',s.tx n=some t->t.reads.length<256->zBb (cut (zAf fr to) (zHp s t)) ys->Q8 w.heap.size w' r ys->(∀ q,(Sl.v r).ownBlock=some q->ρ' q=none)->Mgr ρ' w' b (setTx s n (addR t (zAf fr to)))->Ext ρ w ρ' w'->k r 0 w'):
  Cl zA zFu [.pointer (ptrA b),.int .i64 n,.string fr,.string to].toArray w (λe w'=>∃ (r0:Sl) (r1:Int),e=.returned (.tuple [Sl.v r0,.int .i64 r1].toArray)/\k r0 r1 w'):=by
 obtain ⟨vs,mb,g,m⟩:=h
 refine zIX (ptrA b) n fr to w k ?_
 unfold zEx
 refine zLu m n (λht=>?_) λt ht=>?_
 ·refine zD6 zJD λB w1 b1 hB hB0=>?_
  refine zHi zA4 hB rfl rfl λw2 hB2 g2=>?_
  have b2:Bel w w2:=b1.grown g2 λr hr=>by cases hr;exact hB0
  exact ⟨λ_=>H0 ht w2 b2,λh=>absurd (by decide) h⟩
 refine zD6 zJD λX w1 b1 hX hX0=>?_
 refine zHi zA4 hX rfl rfl λw2 hX2 g2=>?_
 have b2:Bel w w2:=b1.grown g2 λr hr=>by cases hr;exact hX0
 refine ⟨λh=>absurd rfl h,λ_=>?_⟩
 have m2:=m.bel b2
 have mt2:=m2.tx n t ht
 have hrl:=mt2.rd.len
 refine zAF zA4 (ptrA (g n).tb) hX2.cell ⟨trivial,?_⟩
 refine yO zAz zBc mt2.row.at (g n).rs rfl ?_
 refine ⟨λhc=>H1 t ht (by omega) w2 b2,λhc=>?_⟩
 have hroom:t.reads.length<256:=by omega
 refine ⟨zAf fr to,w2,by kernel_rfl,?_⟩
 refine zBo zLG rfl zFF (cs:=(zAf fr to).cells) rfl rfl rfl λY w3 b3 hY hY0=>?_
 refine ⟨λW=>Row W X [.pointer (ptrA (g n).tb)] zEy/\Row W Y (zAf fr to).cells zJp/\Row W (g n).tb [.int .u64 t.began,Sl.v (g n).rs,.map (some (g n).wb)] zAq,λw4 b4=>?_⟩
 have b24:=b3.trans b4
 have b04:=b2.trans b24
 have m4:=m.bel b04
 have mt4:=m4.tx n t ht
 have hX4:=hX2.bel b24
 have hY4:=hY.bel b4
 refine ⟨⟨hX4,hY4,mt4.row⟩,?_⟩
 refine zCk zA4 (ptrA (g n).tb) (λW hW=>hW.1.cell) ?_
 refine zCk zA4 (ptrA (g n).tb) (λW hW=>hW.1.cell) ⟨trivial,?_⟩
 refine zFa zAz ?_
 refine zCk zBc (g n).rs (λW hW=>hW.2.2.at.fld rfl) ?_
 refine zNG zFF (zAf fr to) rfl (λW hW=>hW.2.1.at) rfl ?_
 refine zPk mt4.rd (λ_=>rfl) (λ_=>rfl) (by decide) zGK zHN rfl (by decide) (zHw (zAf fr to)) (Nat.zero_le _) (by omega) (λW hW=>⟨hX4.bel hW,hY4.bel hW,mt4.row.bel hW⟩) λz w5 hO g5 hq=>?_
 have s1:=b1.le;have s2:=b2.le;have s3:=b3.le;have s24:=b24.le;have s04:=b04.le;have s5:=g5.size;have s4:=b4.le;have s12:=g2.size
 have hxl:w.heap.size<=X/\w.heap.size<=Y:=⟨hX0,by omega⟩
 have hrsne:∀ q,w.heap.size<=q->(Sl.v (g n).rs).ownBlock≠some q:=λq hq e=>by have:=m.lt q (by rw [(m.tx n t ht).rrd q e];simp);omega
 have hX5:=hX4.grown g5 (hrsne X hxl.1)
 have hY5:=hY4.grown g5 (hrsne Y hxl.2)
 have hrow5:Row w5 (g n).tb [.int .u64 t.began,Sl.v (g n).rs,.map (some (g n).wb)] zAq:=mt4.row.grown g5 λe=>by
  have:=mt4.rrd _ e;rw [mt4.rtb] at this;cases this
 refine ⟨⟨hX5,hY5,hrow5⟩,trivial,?_⟩
 refine zFa zAz ?_
 refine zGT zBc hrow5 (by cases z with|mk a l c=>cases a<;>rfl) (by simp) (by cases z with|mk a l c=>cases a<;>rfl) λw6 hR6 g6=>?_
 replace hR6:Row w6 (g n).tb [.int .u64 t.began,Sl.v z,.map (some (g n).wb)] zAq:=hR6
 have hzt:(Sl.v z).ownBlock≠some (g n).tb:=OwnS.ne_row hO hrow5 (by decide)
 have hO6:=hO.kept g6 (.inr hzt)
 have htbX:(g n).tb≠X/\(g n).tb≠Y:=by
  have:=m.lt (g n).tb (by rw [(m.tx n t ht).rtb];simp);omega
 have hX6:=hX5.grown g6 (by simpa using htbX.1)
 have hY6:=hY5.grown g6 (by simpa using htbX.2)
 let ρ':Own:=λk=>if (Sl.v z).ownBlock=some k then some (.rb n) else ρ k
 have hρ:∀ k,k<w.heap.size->ρ' k=ρ k:=λk hk=>by
  show (if (Sl.v z).ownBlock=some k then _ else _)=_
  split
  ·rename_i e
   rcases hq k e with h1|h1
   ·exact (mt4.rrd k h1).symm
   ·omega
  ·rfl
 have hs6:=g6.size
 have hρ4:∀ k,k<w4.heap.size->ρ' k=ρ k:=λk hk=>by
  show (if (Sl.v z).ownBlock=some k then _ else _)=_
  split
  ·rename_i e
   rcases hq k e with h1|h1
   ·exact (mt4.rrd k h1).symm
   ·omega
  ·rfl
 have hkeep:∀ k r,ρ k=some r->r≠.tb n->r≠.rb n->w6.heap[k]?=w4.heap[k]?:=λk r hk h1 h2=>by
  have hkl:=m4.lt k (by rw [hk];simp)
  rw [g6.block k (by omega) λe=>by injection e with e;rw [e,mt4.rtb] at hk;cases hk;exact h1 rfl,g5.block k hkl λe=>by
   have:=mt4.rrd k e.symm;rw [hk] at this;cases this;exact h2 rfl]
 have hE46:Ext ρ w4 ρ' w6:=⟨(Out.row (S:=λk=>ρ k≠none) g5 λk hk=>.inl (by show ρ k≠none;rw [mt4.rrd k hk];simp)).trans (Out.row (S:=λk=>ρ k≠none) g6 λk hk=>by cases hk;exact .inl (by show ρ _≠none;rw [mt4.rtb];simp)) λ_ _ h=>h,hρ4⟩
 have hE:Ext ρ w ρ' w6:=(Ext.bel b04).trans hE46
 have m6:zCF ρ' w6 b (setTx s n (addR t (zAf fr to))) vs mb (λm=>if m=n then ⟨(g n).tb,(g n).wb,z⟩ else g m):=by
  refine m4.setTx ht rfl hρ4 (λk hk=>?_) (λk r hk h1 h2 h3=>hkeep k r hk h1 h3) ?_
  ·by_cases e:(Sl.v z).ownBlock=some k
   ·exact hO6.lt e
   ·have:ρ k≠none:=by
     have h1:(if (Sl.v z).ownBlock=some k then some (Role.rb n) else ρ k)≠none:=hk
     rw [if_neg e] at h1;exact h1
    have:=m4.lt k this;omega
  ·exact {
    row:=hR6
    rtb:=(hρ4 _ (m4.lt _ (by rw [mt4.rtb];simp))).trans mt4.rtb
    rd:=hO6
    rrd:=λk hk=>by show (if (Sl.v z).ownBlock=some k then _ else _)=_;rw [if_pos hk]
    wr:=mt4.wr.keep (hkeep _ _ mt4.rwb (by simp) (by simp))
    rwb:=(hρ4 _ (m4.lt _ (by rw [mt4.rwb];simp))).trans mt4.rwb}
 have hM6:Zp zY zK.v w6 (g n).wb t.wr:=mt4.wr.keep (hkeep _ _ mt4.rwb (by simp) (by simp))
 refine ⟨Bel w6,λw7 b7=>⟨b7,trivial,?_⟩⟩
 refine zFa yX ?_
 refine zNG z8 (cs:=[Sl.v vs,.int .u64 s.low]) ⟨vs,s.low⟩ rfl (λW hW=>(m6.bel hW).versAt) rfl ?_
 refine zCk zA4 (ptrA (g n).tb) (λW hW=>(hX6.bel hW).cell) ⟨trivial,?_⟩
 refine zFa zDy ?_
 refine zCk yE t.began (λW hW=>(hR6.bel hW).at.fld rfl) ?_
 have hvs:zHt s.l s.low fr to t.began=(zBq s.l fr to t.began s.l.length,0):=by
  unfold zHt
  rw [if_neg (by rw [zGm.2 ⟨hI.good,(hI.tim n t ht).1⟩];decide)]
 refine zL3 (x0:=⟨vs,s.low⟩) (m6.bel b7).vers fr to t.began λr2 w8 base hb8 hbw8 hO8 b8=>?_
 replace hO8:Q8 base w8 r2 (zHt s.l s.low fr to t.began).1:=hO8
 rw [hvs] at hO8
 replace hO8:Q8 base w8 r2 (zBq s.l fr to t.began s.l.length):=hO8
 have hl4:=hI.good.len
 have hsl:=zIs s.l fr to t.began s.l.length
 have b68:=b7.trans b8
 have s67:=b7.le
 refine ⟨b68,?_⟩
 have hXb:X<w6.heap.size:=hX6.lt
 have hTb:(g n).tb<w6.heap.size:=hR6.lt
 have hMb:(g n).wb<w6.heap.size:=hM6.lt
 refine zN2 (p:=λd=>(t.wr d.Key).isSome) (C:=λW=>Row W X [.pointer (ptrA (g n).tb)] zEy/\Row W (g n).tb [.int .u64 t.began,Sl.v z,.map (some (g n).wb)] zAq/\Zp zY zK.v W (g n).wb t.wr) hO8 ⟨hX6.bel b68,hR6.bel b68,hM6.bel b68⟩ ?_ ?_ λr4 w9 hO9 g9 hb9=>?_
 ·rintro W W' row ⟨h1,h2,h3⟩ hg hr
  have hlo:∀ q,row=some q->w6.heap.size<=q:=λq hq=>by have:=hO8.lo (hr q hq);omega
  exact ⟨h1.grown hg λe=>by have:=hlo _ e;omega,h2.grown hg λe=>by have:=hlo _ e;omega,h3.grown hg λe=>by have:=hlo _ e;omega⟩
 ·rintro W ⟨h1,h2,h3⟩
  exact λd _ w' k' hb hk=>.inl ⟨zFS,[],[.pointer (ptrA X)],rfl,zSK,zPF d (h1.bel hb) (h2.bel hb) (h3.bel hb) hk⟩
 have b69:Bel w6 w9:=b68.grown g9 λq hq=>by have:=hO8.lo hq;omega
 have s69:=b69.le
 refine zAF zA4 (ptrA (g n).tb) (hX6.bel b69).cell ⟨trivial,?_⟩
 refine yO zAG Qd (hR6.bel b69).at (some (g n).wb) rfl ?_
 obtain ⟨⟨dom,hd,hdl⟩,hky⟩:Few t/\zPM t:=⟨(hI.txok n t ht).few,(hI.txok n t ht).keyed⟩
 refine zPK (hM6.bel b69) YS λw10 hi b10=>?_
 have hwb9:(g n).wb<w9.heap.size:=by omega
 have s8:=b8.le;have s9:=g9.size
 have hbase9:base<=w9.heap.size:=by omega
 have hfl:((zBq s.l fr to t.began s.l.length).filter (λd=>!(t.wr d.Key).isSome)).length<=4096:=zj (List.length_filter_le _ _) (by omega)
 generalize hR:w9.heap.size=R at hi hwb9 hbase9 ⊢
 have s10:=b10.le
 let L0:=(zBq s.l fr to t.began s.l.length).filter (λd=>!(t.wr d.Key).isSome)
 refine ⟨λx W=>∃ ks,zAn zY zK.v W (g n).wb R t.wr ks/\Q8 base W x (L0++(ks.filterMap t.wr).filterMap (zGM (zAf fr to)))/\Bel w6 W/\R<W.heap.size,λ_ W=>dom.length - zG8 W R,⟨[],hi,by show Q8 base w10 r4 (L0++[]);rw [List.append_nil];exact hO9.bel b10,b69.trans b10,by obtain ⟨c,sb,hb⟩:=hi.blk;exact (Array.getElem?_eq_some_iff.1 hb).1⟩,?_⟩
 rintro x W ⟨ks,hi1,hO1,hb1,hRW⟩
 unfold zBW
 refine zMk hi1 (by omega) zIN (λhall=>?_) λy v W2 hy hn hi2 hg=>?_
 ·refine ⟨λ_=>?_,λk v e=>by cases e⟩
  refine SoCmpFunc_api_Pair.sort_ok zPI zM3 hO1 λys w3 hp hpw hO2 hg=>?_
  have hdk:Doms t.wr ks:=⟨hi1.nd,λx=>⟨hi1.dom x,λ⟨v,hv⟩=>hall x v hv⟩⟩
  have hbf:Bel w6 w3:=hb1.grown hg λq hq=>by have:=hO1.lo hq;omega
  refine H2 t x ys ρ' w3 ht hroom (zN3 hI ht fr to hdk hp hpw) (hO2.low (by omega)) (λq hq=>?_) ⟨_,_,_,m6.bel hbf⟩ (hE.trans (Ext.bel hbf))
  have h1:=hO2.lo hq
  cases hρq:ρ' q with
  |none=>rfl
  |some r0=>have:=m6.lt q (by rw [hρq];simp);omega
 ·refine ⟨λe=>(nomatch e),λk v' e=>?_⟩
  cases e
  have hb2:Bel w6 W2:=hb1.grown hg λr e=>by cases e;omega
  have hcl:(ks++[y]).length<=dom.length:=zGN hi2.nd λz hz=>(hd.2 z).2 (hi2.dom z hz)
  rw [yB,List.length_singleton] at hcl
  have hl1:=hi1.size
  have hO2:Q8 base W2 x (L0++(ks.filterMap t.wr).filterMap (zGM (zAf fr to))):=hO1.notwalk (B:=R) hg λr e=>by
   cases e
   obtain ⟨c,sb,hb⟩:=hi1.blk
   exact ⟨zV _,_,hb,rfl⟩
  refine zH2 hi2 hy zIN ?_
  refine zBo zA5 rfl Q7 (cs:=v.cells) rfl rfl rfl λC W3 b3 hC _=>?_
  refine yO zBd zDa hC.at v.Gone rfl ?_
  have hi3:=hi2.bel b3
  have hO3:=hO2.bel b3
  have hb3:=hb2.trans b3
  have hg2:=hg.size;have s3:=b3.le
  have hvk:=hky y v hy
  have hfm:(ks++[y]).filterMap t.wr=ks.filterMap t.wr++[v]:=by rw [List.filterMap_append,List.filterMap_cons_some hy];rfl
  have hlen:(L0++(ks.filterMap t.wr).filterMap (zGM (zAf fr to))).length<=4096+256:=by
   rw [yB]
   have h1:=List.length_filterMap_le (zGM (zAf fr to)) (ks.filterMap t.wr)
   have h2:=List.length_filterMap_le t.wr ks
   have h3:L0.length<=4096:=hfl
   omega
  have J:∀ (c:Bool) W4,Bel W3 W4->(c=true↔v.Gone=false/\zBJ (zAf fr to) v.Key=true)->zAK x (λx13' w'=>(∃ ks,zAn zY zK.v w' (g n).wb R t.wr ks/\Q8 base w' x13' (L0++(ks.filterMap t.wr).filterMap (zGM (zAf fr to)))/\Bel w6 w'/\R<w'.heap.size)/\dom.length - zG8 w' R<dom.length - zG8 W R) (zK.v v) (ptrA C) c W4:=by
   intro c W4 b4 hc
   unfold zAK
   have hi4:=hi3.bel b4
   have s4:=b4.le
   have hlen4:=hi4.size
   rw [yB,List.length_singleton] at hlen4
   refine ⟨λh1=>?_,λh1=>?_⟩
   ·have hpk:zGM (zAf fr to) v=some ⟨v.Key,v.Val⟩:=by unfold zGM;rw [if_pos (hc.1 h1)]
    have hC4:=hC.bel b4
    refine yO xf zn hC4.at v.Key rfl ?_
    refine yO zAe zn hC4.at v.Val rfl ?_
    refine ⟨⟨v.Key,v.Val⟩,W4,by kernel_rfl,?_⟩
    refine zKE (w0:=w6) (hO3.bel b4) (hb3.trans b4) (by omega) (by omega) (by omega) λx' W5 hO5 hb5 g5=>?_
    have hi5:=zMC hi4 (KeepsWalks.row g5 λr hr=>(hO3.bel b4).isRow hr)
    have hlen5:=hi5.size
    rw [yB,List.length_singleton] at hlen5
    refine ⟨⟨ks++[y],hi5,?_,hb5,by have:=g5.size;omega⟩,by omega⟩
    rw [hfm,List.filterMap_append,List.filterMap_cons_some hpk,← List.append_assoc];exact hO5
   ·have hpk:zGM (zAf fr to) v=none:=by unfold zGM;rw [if_neg λh2=>by rw [hc.2 h2] at h1;cases h1]
    refine ⟨⟨ks++[y],hi4,?_,hb3.trans b4,by omega⟩,by omega⟩
    rw [hfm,List.filterMap_append,List.filterMap_cons_none hpk,List.filterMap_nil,List.append_nil];exact hO3.bel b4
  refine ⟨λh1=>?_,λh1=>J false W3 (Bel.refl _) ⟨λh=>(nomatch h),λh2=>by rw [h2.1] at h1;cases h1⟩⟩
  have hgf:v.Gone=false:=by simpa using h1
  have hY3:=hY6.bel hb3
  refine zAs zFF (zAf fr to) rfl hY3.at rfl ?_
  refine yO xf zn hC.at v.Key rfl ?_
  exact zNP (zAf fr to) v.Key W3 λW4 b4=>J _ W4 b4 ⟨λh=>⟨hgf,h⟩,λh=>h.2⟩
end Go.Proofs.YtealcoghiaeiiaaGreatDoor.VG
set_option linter.unusedVariables false
set_option linter.unusedSimpArgs false
namespace Go.Proofs.YtealcoghiaeiiaaGreatDoor.VG
open Go.VB Go.Proofs Go.RowKit
theorem zGq {s:St} {n:Int} {f:Tx->St × Ans} (h:s.tx n=none):onTx s n f=(s,errA 11):=by unfold onTx;rw [h]
theorem zBL {s:St} {n:Int} {f:Tx->St × Ans} {t:Tx} (h:s.tx n=some t):onTx s n f=f t:=by unfold onTx;rw [h]
theorem Ext.new {ρ ρ':Own} {w W w':World} {B:Nat} (h:Ext ρ w ρ' W) (hg:W.grownBy w' (some B)) (hB:w.heap.size<=B):Ext ρ w ρ' w':=
 ⟨h.out.trans (T:=λk=>k=B) (Out.row hg λk hk=>by cases hk;exact .inl rfl) λi hi e=>by omega,h.same⟩
theorem Mgr.other {ρ:Own} {w w':World} {b:Nat} {s:St} {B:Nat} (h:Mgr ρ w b s) (hg:w.grownBy w' (some B)) (hB:ρ B=none):Mgr ρ w' b s:=
 let ⟨vs,mb,g,m⟩:=h
 ⟨vs,mb,g,m.keep hg.size λk hk=>hg.block k (m.lt k hk) λe=>by cases e;exact hk hB⟩
section
variable {ρ:Own} {w:World} {b:Nat} {s:St}
theorem zNn (h:Mgr ρ w b s) (hI:Inv s) (hg:s.given<4611686018427387904) {k:Int->Int->World->Prop} (H:∀ ρ' w',Mgr ρ' w' b (zBp s).1->Ext ρ w ρ' w'->k (zBp s).2.tx (zBp s).2.why w'):
  Cl zA zFl [.pointer (ptrA b)].toArray w (λe w'=>∃ (r0 r1:Int),e=.returned (.tuple [.int .i64 r0,.int .i64 r1].toArray)/\k r0 r1 w'):=by
 refine zOx h hI.giv hg hI.free (λks hd hl=>?_) λks ρ' w' hd hl hM hE=>?_
 ·have e:zBp s=(s,errA 3):=by unfold zBp;rw [zJb hd,if_pos hl]
  rw [e] at H;exact H ρ w h (Ext.refl _ _)
 ·have e:zBp s=(zGf s,{ans0 with tx:=s.given+1}):=by unfold zBp;rw [zJb hd,if_neg (by omega)]
  rw [e] at H;exact H ρ' w' hM hE
theorem zRW (h:Mgr ρ w b s) (n:Int) (key:ByteArray) {k:ByteArray->Bool->Int->World->Prop} (H:∀ ρ' w',Mgr ρ' w' b (getD s n key).1->Ext ρ w ρ' w'->k (getD s n key).2.val (getD s n key).2.is (getD s n key).2.why w'):
  Cl zA zGD [.pointer (ptrA b),.int .i64 n,.string key].toArray w (λe w'=>∃ (r0:ByteArray) (r1:Bool) (r2:Int),e=.returned (.tuple [.string r0,.bool r1,.int .i64 r2].toArray)/\k r0 r1 r2 w'):=by
 unfold getD at H
 refine zQs h n key (λht=>?_) (λt ht h1=>?_) (λt ht h1 h2=>?_) λt ρ' w' ht h1 h2 hM hE=>?_
 ·rw [zGq ht] at H;exact H ρ w h (Ext.refl _ _)
 ·rw [zBL ht] at H;unfold getT at H;rw [if_pos h1] at H;exact H ρ w h (Ext.refl _ _)
 ·rw [zBL ht] at H;unfold getT at H;rw [if_neg h1,if_pos h2] at H;exact H ρ w h (Ext.refl _ _)
 ·rw [zBL ht] at H;unfold getT at H;rw [if_neg h1,if_neg (by omega)] at H;exact H ρ' w' hM hE
theorem zOy (h:Mgr ρ w b s) (hI:Inv s) (n:Int) (fr to:ByteArray) {k:Sl->Int->World->Prop}
  (H:∀ r ρ' w',Mgr ρ' w' b (zFv s n fr to).1->Ext ρ w ρ' w'->Q8 w.heap.size w' r (zFv s n fr to).2.pairs->(∀ q,(Sl.v r).ownBlock=some q->ρ' q=none)->k r (zFv s n fr to).2.why w'):
  Cl zA zFu [.pointer (ptrA b),.int .i64 n,.string fr,.string to].toArray w (λe w'=>∃ (r0:Sl) (r1:Int),e=.returned (.tuple [Sl.v r0,.int .i64 r1].toArray)/\k r0 r1 w'):=by
 unfold zFv at H
 refine zP1 h hI n fr to (λht w' hb=>?_) (λt ht h1 w' hb=>?_) λt r ys ρ' w' ht h1 hS hO hρ hM hE=>?_
 ·rw [zGq ht] at H;exact H Sl.none ρ w' (h.bel hb) (Ext.bel hb) (OwnS.nil _ _ _ _ _) λq e=>by cases e
 ·rw [zBL ht] at H;unfold zKw at H;rw [if_pos h1] at H;exact H Sl.none ρ w' (h.bel hb) (Ext.bel hb) (OwnS.nil _ _ _ _ _) λq e=>by cases e
 ·rw [zBL ht] at H;unfold zKw at H;rw [if_neg (by omega),zKO hS] at H;exact H r ρ' w' hM hE hO hρ
theorem zNj (h:Mgr ρ w b s) (n:Int) (x:Wri) {k:Int->World->Prop} (H:∀ ρ' w',Mgr ρ' w' b (zCI s n x).1->Ext ρ w ρ' w'->k (zCI s n x).2.why w'):
  Cl zA zB4 [.pointer (ptrA b),.int .i64 n,zK.v x].toArray w (λe w'=>∃ r0:Int,e=.returned (.int .i64 r0)/\k r0 w'):=by
 unfold zCI at H
 refine zO3 h n x (λht w' hb=>?_) (λt ht h1 w' hb=>?_) (λt ks ht h1 h2 hd h3 w' hb=>?_) λt w' ht h1 h2 hM hE=>?_
 ·rw [zGq ht] at H;exact H ρ w' (h.bel hb) (Ext.bel hb)
 ·rw [zBL ht] at H;unfold zJd at H;rw [if_pos h1] at H;exact H ρ w' (h.bel hb) (Ext.bel hb)
 ·rw [zBL ht] at H;unfold zJd at H;rw [if_neg h1,if_pos ⟨h2,by rw [zJb hd];exact h3⟩] at H;exact H ρ w' (h.bel hb) (Ext.bel hb)
 ·rw [zBL ht] at H;unfold zJd at H
  rw [if_neg h1,if_neg λh3=>by obtain ⟨ks,hd,hl⟩:=h2 h3.1;have:=h3.2;rw [zJb hd] at this;omega] at H
  exact H ρ w' hM hE
theorem zRi (h:Mgr ρ w b s) (n:Int) (key val:ByteArray) {k:Int->World->Prop} (H:∀ ρ' w',Mgr ρ' w' b (zCI s n ⟨key,val,false⟩).1->Ext ρ w ρ' w'->k (zCI s n ⟨key,val,false⟩).2.why w'):
  Cl zA zF8 [.pointer (ptrA b),.int .i64 n,.string key,.string val].toArray w (λe w'=>∃ r0:Int,e=.returned (.int .i64 r0)/\k r0 w'):=zRA n key val (zNj h n _ H)
theorem zPe (h:Mgr ρ w b s) (n:Int) (key:ByteArray) {k:Int->World->Prop} (H:∀ ρ' w',Mgr ρ' w' b (zCI s n ⟨key,noB,true⟩).1->Ext ρ w ρ' w'->k (zCI s n ⟨key,noB,true⟩).2.why w'):
  Cl zA zFR [.pointer (ptrA b),.int .i64 n,.string key].toArray w (λe w'=>∃ r0:Int,e=.returned (.int .i64 r0)/\k r0 w'):=zNx n key (zNj h n _ H)
theorem zQC (h:Mgr ρ w b s) (n:Int) {k:Int->World->Prop} (H:∀ ρ' w',Mgr ρ' w' b (zGX s n).1->Ext ρ w ρ' w'->k (zGX s n).2.why w'):
  Cl zA zFk [.pointer (ptrA b),.int .i64 n].toArray w (λe w'=>∃ r0:Int,e=.returned (.int .i64 r0)/\k r0 w'):=by
 unfold zGX at H
 refine zPV h n (λht=>?_) λt ρ' w' ht hM hE=>?_
 ·rw [zGq ht] at H;exact H ρ w h (Ext.refl _ _)
 ·rw [zBL ht] at H;exact H ρ' w' hM hE
theorem zOu (h:Mgr ρ w b s) (hI:Inv s) (hn:s.now<4611686018427387904) (n:Int) {k:Sl->Int->Int->World->Prop}
  (H:∀ r ρ' w',Mgr ρ' w' b (zB2 s n).1->Ext ρ w ρ' w'->zDE w.heap.size w' r (zB2 s n).2.done->(∀ q,(Sl.v r).ownBlock=some q->ρ' q=none)->k r (zB2 s n).2.time (zB2 s n).2.why w'):
  Cl zA zFP [.pointer (ptrA b),.int .i64 n].toArray w (λe w'=>∃ (r0:Sl) (r1:Int) (r2:Int),e=.returned (.tuple [Sl.v r0,.int .u64 r1,.int .i64 r2].toArray)/\k r0 r1 r2 w'):=by
 unfold zB2 at H
 have h0:=hI.lo;have h1:=hI.lonow
 have nob:∀ {w':World},zDE w.heap.size w' Sl.none []:=OwnS.nil _ _ _ _ _
 have nor:∀ {ρ':Own} q,(Sl.v Sl.none).ownBlock=some q->ρ' q=none:=λq e=>by cases e
 refine zOD h n (λt ht=>⟨(hI.txok n t ht).few,(hI.txok n t ht).keyed⟩) (by omega) hn (λht=>?_) (λt ρ' w' ht hc hM hE=>?_) (λt ρ' w' ht hc he hM hE=>?_) (λt ys ρ' w' ht hc hS he hp hM hE=>?_) λt ys r ρ' w' ht hc hS he hp hM hE hr hq=>?_
 ·rw [zGq ht] at H;exact H Sl.none ρ w h (Ext.refl _ _) nob nor
 ·rw [zBL ht] at H;unfold zGy at H;rw [if_pos hc] at H;exact H Sl.none ρ' w' hM hE nob nor
 ·rw [zBL ht] at H;unfold zGy at H;rw [if_neg (by simp [hc]),if_pos he] at H;exact H Sl.none ρ' w' hM hE nob nor
 ·rw [zBL ht] at H;unfold zGy at H
  rw [if_neg (by simp [hc]),if_neg (λh=>by obtain ⟨x,hx⟩:=he;exact hx (h x)),zIM hS,if_pos hp] at H
  exact H Sl.none ρ' w' hM hE nob nor
 ·rw [zBL ht] at H;unfold zGy at H
  rw [if_neg (by simp [hc]),if_neg (λh=>by obtain ⟨x,hx⟩:=he;exact hx (h x)),zIM hS,if_neg (by simp [hp])] at H
  exact H r ρ' w' hM hE hr λq h=>(hq q h).2.2
end
structure zJP (base:Nat) (ρ:Own) (w:World) (y:zv) (a:Ans):Prop where
 why:y.Why=a.why
 tx:y.Tx=a.tx
 val:y.Val=a.val
 is:y.Is=a.is
 pairs:Q8 base w y.Pairs a.pairs
 done:zDE base w y.Done a.done
 time:y.Time=a.time
 rp:∀ q,(Sl.v y.Pairs).ownBlock=some q->ρ q=none
 rd:∀ q,(Sl.v y.Done).ownBlock=some q->ρ q=none
theorem zJP.ans {base:Nat} {ρ:Own} {w:World} {y:zv} {a:Ans} (h:zJP base ρ w y a):zJq w y a:=⟨h.why,h.tx,h.val,h.is,Q8.rd h.pairs,zDE.rd h.done,h.time⟩
abbrev zAns:zv:=⟨15,0,noB,false,Sl.none,Sl.none,0⟩
structure Mid (ρ:Own) (w:World) (b A C:Nat) (s':St) (p:Sl) (ps:List Pai) (d:Sl) (ds:List Wri) (ρ':Own) (W:World) (cs:List Value):Prop where
 mgr:Mgr ρ' W b s'
 ext:Ext ρ w ρ' W
 rA:ρ' A=none
 rC:ρ' C=none
 a:∃ z:List Value,z.length=7/\Row W A z zEj
 c:Row W C cs zEj
 pr:Q8 w.heap.size W p ps
 dn:zDE w.heap.size W d ds
 rp:∀ q,(Sl.v p).ownBlock=some q->ρ' q=none
 rd:∀ q,(Sl.v d).ownBlock=some q->ρ' q=none
theorem Mid.st {ρ:Own} {w:World} {b A C:Nat} {s':St} {p:Sl} {ps:List Pai} {d:Sl} {ds:List Wri} {ρ':Own} {W:World} {cs:List Value} (h:Mid ρ w b A C s' p ps d ds ρ' W cs) {t:Nat} (hA:One zA t) {off:Nat} {v:Value}
  (hv:v.cells.toList=[v]) (hl:off<cs.length) (h1:v.oneCell'=true) (hC:w.heap.size<=C) (hAC:A≠C) {k:World->Prop} (H:∀ W',Mid ρ w b A C s' p ps d ds ρ' W' (cs.take off++[v]++cs.drop (off+1))->k W'):
  opU zA (zI t (.pointer (some ((⟨C,0,none⟩:Addr).add off))) v) W k:=by
 refine zGT hA h.c hv hl h1 λW' hR hg=>H W' ?_
 obtain ⟨z,hz,ha⟩:=h.a
 exact {h with
  mgr:=h.mgr.other hg h.rC
  ext:=h.ext.new hg hC
  a:=⟨z,hz,ha.grown hg (by simpa using hAC.symm)⟩
  c:=hR
  pr:=h.pr.kept hg (.inr (OwnS.ne_row h.pr h.c (by decide)))
  dn:=h.dn.kept hg (.inr (OwnS.ne_row h.dn h.c (by decide)))}
theorem zOz (s:St):(zBp s).2={ans0 with tx:=(zBp s).2.tx,why:=(zBp s).2.why}:=by unfold zBp;split<;>rfl
theorem zQq (s:St) (n:Int) (key:ByteArray):(getD s n key).2={ans0 with val:=(getD s n key).2.val,is:=(getD s n key).2.is,why:=(getD s n key).2.why}:=by
 unfold getD onTx
 cases s.tx n with
 |none=>rfl
 |some t=>simp only;unfold getT;split<;>(try split)<;>rfl
theorem zPs (s:St) (n:Int) (fr to:ByteArray):(zFv s n fr to).2={ans0 with pairs:=(zFv s n fr to).2.pairs,why:=(zFv s n fr to).2.why}:=by
 unfold zFv onTx
 cases s.tx n with
 |none=>rfl
 |some t=>simp only;unfold zKw;split<;>rfl
theorem zMW (s:St) (n:Int) (x:Wri):(zCI s n x).2={ans0 with why:=(zCI s n x).2.why}:=by
 unfold zCI onTx
 cases s.tx n with
 |none=>rfl
 |some t=>simp only;unfold zJd;split<;>(try split)<;>rfl
theorem zN0 (s:St) (n:Int):(zB2 s n).2={ans0 with done:=(zB2 s n).2.done,time:=(zB2 s n).2.time,why:=(zB2 s n).2.why}:=by
 unfold zB2 onTx
 cases s.tx n with
 |none=>rfl
 |some t=>simp only;unfold zGy;split<;>(try split)<;>(try split)<;>rfl
theorem zOV (s:St) (n:Int):(zGX s n).2={ans0 with why:=(zGX s n).2.why}:=by
 unfold zGX onTx
 cases s.tx n<;>rfl
theorem zRL {ρ:Own} {w:World} {b:Nat} {s:St} (h:Mgr ρ w b s) (hI:Inv s) (hn:s.now<4611686018427387904) (hg:s.given<4611686018427387904) (x:yK) {k:zv->World->Prop}
  (H:∀ y ρ' w',Mgr ρ' w' b (doS s x).1->Ext ρ w ρ' w'->zJP w.heap.size ρ' w' y (doS s x).2->k y w'):
  Cl zA zI2 [.pointer (ptrA b),yK.v x].toArray w (λe w'=>∃ r0:zv,e=.returned (zv.v r0)/\k r0 w'):=by
 refine zI5 (ptrA b) x w k ?_
 unfold zFe
 refine zAi (cs:=x.cells) rfl λX w1 b1 hX hX0=>?_
 refine zD6 zFV λA w2 b2 hA hA0=>?_
 refine ⟨zAns,w2,by kernel_rfl,?_⟩
 refine zBo zFV rfl zCN (cs:=zAns.cells) rfl rfl rfl λC w3 b3 hC hC0=>?_
 have b13:=b2.trans b3
 have b03:=b1.trans b13
 replace hX:=hX.bel b13
 have hA2:=hA.lt
 replace hA:=hA.bel b3
 have s1:=b1.le;have s2:=b2.le
 have hlt:=h.lt
 have hnone:∀ q,w.heap.size<=q->ρ q=none:=λq hq=>by
  cases hρ:ρ q with
  |none=>rfl
  |some r=>have:=hlt q (by rw [hρ];simp);omega
 have h3:=h.bel b03
 have hXl:=hX.lt;have hAl:=hA.lt;have hCl:=hC.lt
 have hAC:A≠C:=by omega
 refine zKN _ ⟨λh=>(nomatch h),λ_=>?_⟩
 have J1:∀ W (y:zv) ρ',Ext ρ w ρ' W->ρ' A=none->Mgr ρ' W b (doS s x).1->(∃ z:List Value,z.length=7/\Row W A z zEj)->Row W C y.cells zEj->zJP w.heap.size ρ' W y (doS s x).2->xA k (ptrA A) (ptrA C) W:=by
  rintro W y ρ' g hρA hM ⟨z,hz,hAW⟩ hCW hy
  unfold xA
  refine zAs zCN y rfl hCW.at rfl ?_
  have hone:y.cells.all (·.oneCell')=true:=by
   obtain ⟨a1,a2,a3,a4,⟨a5,a51,a52⟩,⟨a6,a61,a62⟩,a7⟩:=y
   cases a5<;>cases a6<;>rfl
  refine zIF zCN hAW hz rfl hone λw5 hA5 g5=>?_
  refine R.agg zCN y rfl hA5.at rfl (H y ρ' w5 (hM.other g5 hρA) (g.new g5 (by omega)) ?_)
  have hp:(Sl.v y.Pairs).ownBlock≠some A:=OwnS.ne_row hy.pairs hAW (by decide)
  have hd:(Sl.v y.Done).ownBlock≠some A:=OwnS.ne_row hy.done hAW (by decide)
  exact {hy with pairs:=hy.pairs.kept g5 (.inr hp),done:=hy.done.kept g5 (.inr hd)}
 have mid:∀ {ρ' W s' p ps d ds},Mgr ρ' W b s'->Ext ρ w3 ρ' W->Q8 w3.heap.size W p ps->zDE w3.heap.size W d ds->(∀ q,(Sl.v p).ownBlock=some q->ρ' q=none)->(∀ q,(Sl.v d).ownBlock=some q->ρ' q=none)->Mid ρ w b A C s' p ps d ds ρ' W zAns.cells:=by
  intro ρ' W s' p ps d ds hM g hp hd hrp hrd
  have s03:=b03.le
  exact {
   mgr:=hM
   ext:=(Ext.bel b03).trans g
   rA:=(g.same A hAl).trans (hnone A (by omega))
   rC:=(g.same C hCl).trans (hnone C (by omega))
   a:=⟨_,rfl,hA.keep (g.blk hAl (hnone A (by omega)))⟩
   c:=hC.keep (g.blk hCl (hnone C (by omega)))
   pr:=hp.low s03
   dn:=hd.low s03
   rp:=hrp
   rd:=hrd}
 have nop:∀ {W},Q8 w3.heap.size W Sl.none []:=OwnS.nil _ _ _ _ _
 have nod:∀ {W},zDE w3.heap.size W Sl.none []:=OwnS.nil _ _ _ _ _
 have nor:∀ {ρ':Own} q,(Sl.v Sl.none).ownBlock=some q->ρ' q=none:=λq e=>by cases e
 have hwC:w.heap.size<=C:=by omega
 have fin:∀ {ρ' W s' p ps d ds} {y:zv} {a:Ans},doS s x=(s',a)->Mid ρ w b A C s' p ps d ds ρ' W y.cells->y.Why=a.why->y.Tx=a.tx->y.Val=a.val->y.Is=a.is->y.Pairs=p->a.pairs=ps->y.Done=d->a.done=ds->y.Time=a.time->xA k (ptrA A) (ptrA C) W:=by
  intro ρ' W s' p ps d ds y a he M e1 e2 e3 e4 e5 e6 e7 e8 e9
  refine J1 W y ρ' M.ext M.rA (by rw [he];exact M.mgr) M.a M.c ?_
  rw [he]
  subst e5;subst e6;subst e7;subst e8
  exact ⟨e1,e2,e3,e4,M.pr,M.dn,e9,M.rp,M.rd⟩
 have slv:∀ z:Sl,(Sl.v z).cells.toList=[Sl.v z]/\(Sl.v z).oneCell'=true:=λz=>by cases z with|mk a l c=>cases a<;>exact ⟨rfl,rfl⟩
 refine yO zAC zBf hX.at x.Kind rfl ⟨λhk=>?_,λk1=>?_⟩
 ·have he:doS s x=zBp s:=by unfold doS;rw [if_pos hk]
  refine zNn h3 hI hg λρ' W hM g=>?_
  have M:=mid hM g nop nod nor nor
  refine ⟨_,W,zIR _ _,?_⟩
  refine M.st zAw rfl (by show _<7;decide) rfl hwC hAC λW1 M=>?_
  refine ⟨_,W1,ZC _ _,?_⟩
  refine M.st (off:=0) zBa rfl (by show _<7;decide) rfl hwC hAC λW2 M=>?_
  exact fin (y:=⟨(zBp s).2.why,(zBp s).2.tx,noB,false,Sl.none,Sl.none,0⟩) (a:={ans0 with tx:=(zBp s).2.tx,why:=(zBp s).2.why}) (by rw [he,← zOz]) M rfl rfl rfl rfl rfl rfl rfl rfl rfl
 refine yO zAC zBf hX.at x.Kind rfl ⟨λhk=>?_,λk2=>?_⟩
 ·have he:doS s x=getD s x.Tx x.Key:=by unfold doS;rw [if_neg k1,if_pos hk]
  refine yO zBF zAw hX.at x.Tx rfl ?_
  refine yO zCh zn hX.at x.Key rfl ?_
  refine zRW h3 x.Tx x.Key λρ' W hM g=>?_
  have M:=mid hM g nop nod nor nor
  refine ⟨_,W,zIG _ _,?_⟩
  refine M.st zn rfl (by show _<7;decide) rfl hwC hAC λW1 M=>?_
  refine ⟨_,W1,zIS _ _,?_⟩
  refine M.st zDa rfl (by show _<7;decide) rfl hwC hAC λW2 M=>?_
  refine ⟨_,W2,ZC _ _,?_⟩
  refine M.st (off:=0) zBa rfl (by show _<7;decide) rfl hwC hAC λW3 M=>?_
  exact fin (y:=⟨(getD s x.Tx x.Key).2.why,0,(getD s x.Tx x.Key).2.val,(getD s x.Tx x.Key).2.is,Sl.none,Sl.none,0⟩) (a:={ans0 with val:=(getD s x.Tx x.Key).2.val,is:=(getD s x.Tx x.Key).2.is,why:=(getD s x.Tx x.Key).2.why}) (by rw [he,← zQq]) M rfl rfl rfl rfl rfl rfl rfl rfl rfl
 refine yO zAC zBf hX.at x.Kind rfl ⟨λhk=>?_,λk3=>?_⟩
 ·have he:doS s x=zFv s x.Tx x.Key x.To:=by unfold doS;rw [if_neg k1,if_neg k2,if_pos hk]
  refine yO zBF zAw hX.at x.Tx rfl ?_
  refine yO zCh zn hX.at x.Key rfl ?_
  refine yO zJF zn hX.at x.To rfl ?_
  refine zOy h3 hI x.Tx x.Key x.To λr ρ' W hM g hO hρ=>?_
  have M:=mid hM g hO nod hρ nor
  refine ⟨_,W,zHI _ _,?_⟩
  refine M.st zFE (slv r).1 (by show _<7;decide) (slv r).2 hwC hAC λW1 M=>?_
  refine ⟨_,W1,ZC _ _,?_⟩
  refine M.st (off:=0) zBa rfl (by show _<7;decide) rfl hwC hAC λW2 M=>?_
  exact fin (y:=⟨(zFv s x.Tx x.Key x.To).2.why,0,noB,false,r,Sl.none,0⟩) (a:={ans0 with pairs:=(zFv s x.Tx x.Key x.To).2.pairs,why:=(zFv s x.Tx x.Key x.To).2.why}) (by rw [he,← zPs]) M rfl rfl rfl rfl rfl rfl rfl rfl rfl
 refine yO zAC zBf hX.at x.Kind rfl ⟨λhk=>?_,λk4=>?_⟩
 ·have he:doS s x=zCI s x.Tx ⟨x.Key,x.Val,false⟩:=by unfold doS;rw [if_neg k1,if_neg k2,if_neg k3,if_pos hk]
  refine yO zBF zAw hX.at x.Tx rfl ?_
  refine yO zCh zn hX.at x.Key rfl ?_
  refine yO zIe zn hX.at x.Val rfl ?_
  refine zRi h3 x.Tx x.Key x.Val λρ' W hM g=>?_
  have M:=mid hM g nop nod nor nor
  refine ⟨_,W,ZC _ _,?_⟩
  refine M.st (off:=0) zBa rfl (by show _<7;decide) rfl hwC hAC λW2 M=>?_
  exact fin (y:=⟨(zCI s x.Tx ⟨x.Key,x.Val,false⟩).2.why,0,noB,false,Sl.none,Sl.none,0⟩) (a:={ans0 with why:=(zCI s x.Tx ⟨x.Key,x.Val,false⟩).2.why}) (by rw [he,← zMW]) M rfl rfl rfl rfl rfl rfl rfl rfl rfl
 refine yO zAC zBf hX.at x.Kind rfl ⟨λhk=>?_,λk5=>?_⟩
 ·have he:doS s x=zCI s x.Tx ⟨x.Key,noB,true⟩:=by unfold doS;rw [if_neg k1,if_neg k2,if_neg k3,if_neg k4,if_pos hk]
  refine yO zBF zAw hX.at x.Tx rfl ?_
  refine yO zCh zn hX.at x.Key rfl ?_
  refine zPe h3 x.Tx x.Key λρ' W hM g=>?_
  have M:=mid hM g nop nod nor nor
  refine ⟨_,W,ZC _ _,?_⟩
  refine M.st (off:=0) zBa rfl (by show _<7;decide) rfl hwC hAC λW2 M=>?_
  exact fin (y:=⟨(zCI s x.Tx ⟨x.Key,noB,true⟩).2.why,0,noB,false,Sl.none,Sl.none,0⟩) (a:={ans0 with why:=(zCI s x.Tx ⟨x.Key,noB,true⟩).2.why}) (by rw [he,← zMW]) M rfl rfl rfl rfl rfl rfl rfl rfl rfl
 refine yO zAC zBf hX.at x.Kind rfl ⟨λhk=>?_,λk6=>?_⟩
 ·have he:doS s x=zB2 s x.Tx:=by unfold doS;rw [if_neg k1,if_neg k2,if_neg k3,if_neg k4,if_neg k5,if_pos hk]
  refine yO zBF zAw hX.at x.Tx rfl ?_
  refine zOu h3 hI hn x.Tx λr ρ' W hM g hO hρ=>?_
  have M:=mid hM g nop hO nor hρ
  refine ⟨_,W,zFQ _ _,?_⟩
  refine M.st zCl (slv r).1 (by show _<7;decide) (slv r).2 hwC hAC λW1 M=>?_
  refine ⟨_,W1,zHb _ _,?_⟩
  refine M.st yE rfl (by show _<7;decide) rfl hwC hAC λW2 M=>?_
  refine ⟨_,W2,ZC _ _,?_⟩
  refine M.st (off:=0) zBa rfl (by show _<7;decide) rfl hwC hAC λW3 M=>?_
  exact fin (y:=⟨(zB2 s x.Tx).2.why,0,noB,false,Sl.none,r,(zB2 s x.Tx).2.time⟩) (a:={ans0 with done:=(zB2 s x.Tx).2.done,time:=(zB2 s x.Tx).2.time,why:=(zB2 s x.Tx).2.why}) (by rw [he,← zN0]) M rfl rfl rfl rfl rfl rfl rfl rfl rfl
 refine yO zAC zBf hX.at x.Kind rfl ⟨λhk=>?_,λk7=>?_⟩
 ·have he:doS s x=zGX s x.Tx:=by unfold doS;rw [if_neg k1,if_neg k2,if_neg k3,if_neg k4,if_neg k5,if_neg k6,if_pos hk]
  refine yO zBF zAw hX.at x.Tx rfl ?_
  refine zQC h3 x.Tx λρ' W hM g=>?_
  have M:=mid hM g nop nod nor nor
  refine ⟨_,W,ZC _ _,?_⟩
  refine M.st (off:=0) zBa rfl (by show _<7;decide) rfl hwC hAC λW2 M=>?_
  exact fin (y:=⟨(zGX s x.Tx).2.why,0,noB,false,Sl.none,Sl.none,0⟩) (a:={ans0 with why:=(zGX s x.Tx).2.why}) (by rw [he,← zOV]) M rfl rfl rfl rfl rfl rfl rfl rfl rfl
 ·have he:doS s x=(s,errA 15):=by unfold doS;rw [if_neg k1,if_neg k2,if_neg k3,if_neg k4,if_neg k5,if_neg k6,if_neg k7]
  exact fin (y:=zAns) he (mid h3 (Ext.refl _ _) nop nod nor nor) rfl rfl rfl rfl rfl rfl rfl rfl rfl
end Go.Proofs.YtealcoghiaeiiaaGreatDoor.VG
set_option linter.unusedVariables false
set_option linter.unusedSimpArgs false
namespace Go.Proofs.YtealcoghiaeiiaaGreatDoor.VG
open Go.VB Go.Proofs Go.RowKit
theorem zK1 {l:List Pai} (h:zGB l l.length):∀ d i x y,l[i]?=some x->l[i+d+1]?=some y->sLt x.Key y.Key=true
 |0,i,x,y,hx,hy=>h i x y (List.getElem?_eq_some_iff.1 hy).1 hx hy
 |d+1,i,x,y,hx,hy=>by
  obtain ⟨z,hz⟩:=getE (l:=l) (n:=i+d+1) (by have:=(List.getElem?_eq_some_iff.1 hy).1;omega)
  exact zHL (zK1 h d i x z hx hz) (h (i+d+1) z y (by have:=(List.getElem?_eq_some_iff.1 hy).1;omega) hz (by rw [show i+d+1+1=i+(d+1)+1 by omega];exact hy))
theorem zK8 {l:List Pai} (h:zGB l l.length):Rise (λp:Pai=>p.Key) l:=by
 rw [Rise,List.pairwise_iff_getElem]
 intro i j hi hj hij
 refine zK1 h (j - i - 1) i _ _ (List.getElem?_eq_getElem hi) ?_
 rw [show i+(j - i - 1)+1=j by omega];exact List.getElem?_eq_getElem hj
theorem zOO {l:List Pai} (h1:l.length<=4096) (h2:l.any zID=false) (h3:zGB l l.length):Inv (newS l) where
 good:=by
  refine zLD (by show (l.map verP).length<=4096;rw [List.length_map];exact h1) (by show (1:Int)<=_;decide) (λx hx=>?_) ?_
  ·obtain ⟨p,hp,rfl⟩:=List.mem_map.1 hx
   have hl:zID p=false:=by
    cases hpl:zID p with
    |false=>rfl
    |true=>rw [List.any_eq_true.2 ⟨p,hp,hpl⟩] at h2;cases h2
   unfold zID at hl
   simp only [Bool.or_eq_false_iff,decide_eq_false_iff_not] at hl
   exact ⟨by show (1:Int)<=1;decide,by show (1:Int)<=_;decide,λh=>(nomatch h),by show p.Key.size<=256;omega,by show p.Val.size<=512;omega⟩
  ·show (l.map verP).Pairwise vlt
   rw [List.pairwise_map]
   exact (zK8 h3).imp λ{a b} h=>.inl h
 lo:=Int.le_refl 1
 lonow:=Int.le_refl 1
 past x hx:=by
  obtain ⟨p,hp,rfl⟩:=List.mem_map.1 hx
  exact Int.le_refl _
 giv:=Int.le_refl 0
 dom:=⟨[],⟨List.nodup_nil,λk=>by simp [newS]⟩,by simp⟩
 num n t ht:=(nomatch ht)
 tim n t ht:=(nomatch ht)
 txok n t ht:=(nomatch ht)
theorem zPL {l:List Pai} (h3:zGB l l.length):zBb (λk=>val (newS l).l k 1) l:=by
 have hs:(l.map verP).Pairwise vlt:=by rw [List.pairwise_map];exact (zK8 h3).imp λ{a b} h=>.inl h
 refine ⟨zK8 h3,λp=>?_⟩
 show p∈l↔val (l.map verP) p.Key 1=some p.Val
 constructor
 ·intro hp
  have:sees (l.map verP) p.Key 1=some (verP p):=zH0 hs (List.mem_map.2 ⟨p,hp,rfl⟩) rfl (Int.le_refl _) λy hy _ h=>h
  unfold val;rw [this];rfl
 ·intro h
  unfold val at h
  cases hse:sees (l.map verP) p.Key 1 with
  |none=>rw [hse] at h;cases h
  |some x=>
   rw [hse] at h
   obtain ⟨g1,g2,_⟩:=zGo hse
   obtain ⟨q,hq,rfl⟩:=List.mem_map.1 g1
   have e1:q.Val=p.Val:=Option.some.inj h
   have e2:q.Key=p.Key:=g2
   obtain ⟨a,c⟩:=p;obtain ⟨a',c'⟩:=q
   simp at e1 e2;subst e1;subst e2;exact hq
abbrev zR4 (w:World) (s:Sl) (l:List yK):Prop:=Rd yK.cells 5 w s l
end Go.Proofs.YtealcoghiaeiiaaGreatDoor.VG
set_option linter.unusedVariables false
set_option linter.unusedSimpArgs false
namespace Go.Proofs.YtealcoghiaeiiaaGreatDoor.VG
open Go.VB Go.Proofs Go.RowKit
theorem zOH (w:Wri) (o:List Pai × Bool) (p:Pai):(zB1 w o p).1.length<=o.1.length+2:=by
 unfold zB1
 simp only [yB]
 split<;>split<;>simp
theorem zM2 {α β:Type} {l:List α} {n:Nat} {x:α} (h:l[n]?=some x) (f:β->α->β) (o:β):(l.take (n+1)).foldl f o=f ((l.take n).foldl f o) x:=by
 rw [zB7 h,List.foldl_append];rfl
theorem zNb {base:Nat} {w0 w:World} {s y:Sl} {l m:List Pai} {k:Sl->World->Prop} (hO:Q8 base w s l) (hy:zIE w y m) (hB:Bel w0 w) (hb:w0.heap.size<=base) (hbw:base<=w.heap.size) (room:l.length+m.length<=4398046511104)
  (H:∀ s' w',Q8 base w' s' (l++m)->Bel w0 w'->w.grownBy w' (Sl.v s).ownBlock->k s' w'):
  opE zA Sl.v (Builtin.append_ #[Q6,Q6] Q6 [Sl.v s,Sl.v y].toArray) w k:=
 zNR hO hy (λ_=>rfl) (λ_=>rfl) (by decide) Yu zHR rfl (by decide) hB hb hbw (by omega) H
theorem zPQ {w:World} {x0:Sl} {l:List Pai} (h:zIE w x0 l) (x:Wri) (hl:l.length<=1000000000) {k:Sl->World->Prop} (H:∀ r w',Q8 w.heap.size w' r (zI1 l x)->Bel w w'->k r w'):
  Cl zA zIU [Sl.v x0,zK.v x].toArray w (λe w'=>∃ r0:Sl,e=.returned (Sl.v r0)/\k r0 w'):=by
 have hbig:=h.big;have hcap:=h.cap;have hlen:=h.len
 refine zIT x0 x w k ?_
 unfold zEr
 refine zAi (cs:=x.cells) rfl λB w1 b1 hX hB=>?_
 have s1:=b1.le
 have hBl:=hX.lt
 refine yO zBd zDa hX.at x.Gone rfl ?_
 refine ⟨λa c i W=>∃ n:Nat,i=(n:Int)/\n<=l.length/\Bel w1 W/\Q8 w1.heap.size W a ((l.take n).foldl (zB1 x) ([],x.Gone)).1/\c=((l.take n).foldl (zB1 x) ([],x.Gone)).2/\((l.take n).foldl (zB1 x) ([],x.Gone)).1.length<=2*n,λ_ _ i _=>(x0.len - i).toNat,
  ⟨0,rfl,by omega,Bel.refl _,OwnS.nil _ _ _ _ _,rfl,by simp⟩,?_⟩
 rintro a c i W ⟨n,rfl,hn,hb,hO,rfl,hol⟩
 unfold zBU
 have app:∀ (W1:World) (s:Sl) (o:List Pai) (y:Pai) (k:Sl->World->Prop),Bel w1 W1->Q8 w1.heap.size W1 s o->o.length<=2000000002->(∀ s' W2,Q8 w1.heap.size W2 s' (o++[y])->Bel w1 W2->W1.grownBy W2 (Sl.v s).ownBlock->k s' W2)->
   opE zA Sl.v (zl Q6 1 [(0,zM.v y)].toArray) W1 (λy w=>opE zA Sl.v (Builtin.append_ #[Q6,Q6] Q6 [Sl.v s,Sl.v y].toArray) w k):=
  λW1 s o y k hb1 hO1 hl1 hk=>zKE (w0:=w1) hO1 hb1 (zV _) hb1.le (by omega) λs' W2 h1 h2 h3=>hk s' W2 h1 h2 h3
 generalize hgo:(l.take n).foldl (zB1 x) ([],x.Gone)=o at hO hol
 refine ⟨λhc=>?_,λhc=>?_⟩
 ·obtain ⟨p,hp⟩:=getE (l:=l) (n:=n) (by omega)
  have hfold:(l.take (n+1)).foldl (zB1 x) ([],x.Gone)=zB1 x o p:=by rw [zM2 hp,hgo]
  have hsl:=zOH x o p
  refine zE2 ((h.bel b1).bel hb) Yu zAQ (by omega) (x:=p) (by simpa using hp) λad hA=>?_
  refine zAs ZF p rfl hA rfl ?_
  refine zBo zHD rfl ZF (cs:=p.cells) rfl rfl rfl λC W1 b2 hP hC=>?_
  have hb1:=hb.trans b2
  have hX1:=hX.bel hb1
  have hO1:=hO.bel b2
  refine yO Zs zn hP.at p.Key rfl ?_
  refine yO xf zn hX1.at x.Key rfl ?_
  have J3:∀ (W2:World) (s:Sl) (o1:List Pai) (c:Bool),Bel w1 W2->Row W2 C p.cells zBA->Q8 w1.heap.size W2 s o1->o1.length<=2*n+1->zB1 x o p=(o1++(if p.Key=x.Key then [] else [p]),c)->
    zAI (ptrA B) (n:Int) (λa' c' i' w'=>(∃ n:Nat,i'=(n:Int)/\n<=l.length/\Bel w1 w'/\Q8 w1.heap.size w' a' ((l.take n).foldl (zB1 x) ([],x.Gone)).1/\c'=((l.take n).foldl (zB1 x) ([],x.Gone)).2/\((l.take n).foldl (zB1 x) ([],x.Gone)).1.length<=2*n)/\(x0.len - i').toNat<(x0.len - (n:Int)).toNat) (ptrA C) s c W2:=by
   intro W2 s o1 c hb2 hP2 hO2 hl2 hst
   have hX2:=hX.bel hb2
   unfold zAI
   refine yO Zs zn hP2.at p.Key rfl ?_
   refine yO xf zn hX2.at x.Key rfl ⟨λhne=>?_,λhe=>?_⟩
   ·rw [if_neg hne] at hst
    refine zAs ZF p rfl hP2.at rfl ?_
    refine app W2 s o1 p _ hb2 hO2 (by omega) λs' W3 hO3 hb3 _=>?_
    unfold zAJ
    rw [wr64 (by omega) (by omega)]
    refine ⟨⟨n+1,by omega,by omega,hb3,?_,?_,?_⟩,by omega⟩
    ·rw [hfold,hst];exact hO3
    ·rw [hfold,hst]
    ·rw [hfold];omega
   ·have he:=Classical.not_not.1 he
    rw [if_pos he,List.append_nil] at hst
    unfold zAJ
    rw [wr64 (by omega) (by omega)]
    refine ⟨⟨n+1,by omega,by omega,hb2,?_,?_,?_⟩,by omega⟩
    ·rw [hfold,hst];exact hO2
    ·rw [hfold,hst]
    ·rw [hfold];omega
  have J4:∀ (c:Bool),(c=true->sLt p.Key x.Key=false/\o.2=false)->(c=false->¬ (sLt p.Key x.Key=false/\o.2=false))->zAH (ptrA B) a o.2 (n:Int) (λa' c' i' w'=>(∃ n:Nat,i'=(n:Int)/\n<=l.length/\Bel w1 w'/\Q8 w1.heap.size w' a' ((l.take n).foldl (zB1 x) ([],x.Gone)).1/\c'=((l.take n).foldl (zB1 x) ([],x.Gone)).2/\((l.take n).foldl (zB1 x) ([],x.Gone)).1.length<=2*n)/\(x0.len - i').toNat<(x0.len - (n:Int)).toNat) (ptrA C) c W1:=by
   intro c hc1 hc0
   unfold zAH
   refine ⟨λht=>?_,λhf=>?_⟩
   ·obtain ⟨h1,h2⟩:=hc1 ht
    refine yO xf zn hX1.at x.Key rfl ?_
    refine yO zAe zn hX1.at x.Val rfl ?_
    refine ⟨⟨x.Key,x.Val⟩,W1,by kernel_rfl,?_⟩
    refine app W1 a o.1 ⟨x.Key,x.Val⟩ _ hb1 hO1 (by omega) λs' W2 hO2 hb2 hg2=>?_
    refine J3 W2 s' (o.1++[⟨x.Key,x.Val⟩]) true hb2 (hP.grown hg2 λe=>by have:=hO.lt e;omega) hO2 (by rw [yB,List.length_singleton];omega) ?_
    unfold zB1
    rw [if_pos ⟨h1,h2⟩,h1]
    simp
   ·have h1:=hc0 hf
    refine J3 W1 a o.1 o.2 hb1 hP hO1 (by omega) ?_
    unfold zB1
    rw [if_neg h1]
    cases h2:sLt p.Key x.Key with
    |true=>simp
    |false=>cases h3:o.2 with
     |true=>simp
     |false=>exact absurd ⟨h2,h3⟩ h1
  refine ⟨λhlt=>J4 _ (λh1=>⟨by simpa using hlt,by simpa using h1⟩) λh1 h2=>(by rw [h2.2] at h1;cases h1),λhlt=>J4 false (λh=>(nomatch h)) λ_ h2=>(by rw [h2.1] at hlt;cases hlt)⟩
 ·obtain rfl:n=l.length:=by omega
  rw [List.take_length] at hgo
  have hend:zI1 l x=end8 x o:=by unfold zI1;rw [hgo]
  rw [hend] at H
  unfold end8 at H
  have hX1:=hX.bel hb
  unfold zAy
  refine ⟨λh1=>?_,λh1=>?_⟩
  ·have h2:o.2=false:=by simpa using h1
   rw [if_neg (by simp [h2])] at H
   refine yO xf zn hX1.at x.Key rfl ?_
   refine yO zAe zn hX1.at x.Val rfl ?_
   refine ⟨⟨x.Key,x.Val⟩,W,by kernel_rfl,?_⟩
   refine app W a o.1 ⟨x.Key,x.Val⟩ _ hb hO (by omega) λs' W2 hO2 hb2 _=>H s' W2 (hO2.low (by omega)) (b1.trans hb2)
  ·have h2:o.2=true:=by simpa using h1
   rw [if_pos h2] at H
   exact H a W (hO.low (by omega)) (b1.trans hb)
theorem zPy {w:World} {x0 x1:Sl} {l:List Pai} {ws:List Wri} (h:zIE w x0 l) (h':zKG w x1 ws) (hl:l.length+ws.length<=1000000000) {k:Sl->World->Prop} (H:∀ r w',Q8 w.heap.size w' r (allL l ws)->Bel w w'->k r w'):
  Cl zA zIr [Sl.v x0,Sl.v x1].toArray w (λe w'=>∃ r0:Sl,e=.returned (Sl.v r0)/\k r0 w'):=by
 have hbig:=h'.big;have hcap:=h'.cap;have hlen:=h'.len
 refine zIm x0 x1 w k ?_
 unfold zFK
 have b1:=Bel.alloc w (.cells #[] zBA)
 refine ⟨_,_,zHe w,?_⟩
 refine zNb (w0:=w) (OwnS.lit0 (zV _)) (h.bel b1) b1 (zV _) (by rw [size_alloc'];omega) (by simp;omega) λr w2 hO b2 _=>?_
 rw [List.nil_append] at hO
 refine ⟨λa i W=>∃ n:Nat,i=(n:Int)/\n<=ws.length/\Bel w W/\Q8 w.heap.size W a (allL l (ws.take n))/\(allL l (ws.take n)).length<=l.length+n,λ_ i _=>(x1.len - i).toNat,
  ⟨0,rfl,by omega,b2,hO,by simp [allL]⟩,?_⟩
 rintro a i W ⟨n,rfl,hn,hb,hO,hol⟩
 unfold zBi
 refine ⟨λhc=>?_,λhc=>?_⟩
 ·obtain ⟨x,hx⟩:=getE (l:=ws) (n:=n) (by omega)
  have hfold:allL l (ws.take (n+1))=zI1 (allL l (ws.take n)) x:=by unfold allL;rw [zB7 hx,List.foldl_append];rfl
  refine zE2 (h'.bel hb) zBs zEk (by omega) (x:=x) (by simpa using hx) λad hA=>?_
  refine zAs Q7 x rfl hA rfl ?_
  refine zBo zA5 rfl Q7 (cs:=x.cells) rfl rfl rfl λC W1 b3 hX hC=>?_
  refine zAs Q7 x rfl hX.at rfl ?_
  refine zPQ (Q8.rd (hO.bel b3)) x (by omega) λr' W2 hO2 b4=>?_
  have hwl:=zOA (allL l (ws.take n)) x
  have hsz:=(hb.trans b3).le
  rw [wr64 (by omega) (by omega)]
  exact ⟨⟨n+1,by omega,by omega,(hb.trans b3).trans b4,by rw [hfold];exact hO2.low hsz,by rw [hfold];omega⟩,by dsimp only;omega⟩
 ·obtain rfl:n=ws.length:=by omega
  rw [List.take_length] at hO
  exact H a W hO hb
end Go.Proofs.YtealcoghiaeiiaaGreatDoor.VG
set_option linter.unusedVariables false
set_option linter.unusedSimpArgs false
namespace Go.Proofs.YtealcoghiaeiiaaGreatDoor.VG
open Go.VB Go.Proofs Go.RowKit
open Classical in
noncomputable def newE (l:List Pai):Int:=if 4096<l.length then 3 else if l.any zID=true then 4 else if ¬ zGB l l.length then 2 else 0
theorem zSD {w:World} {x:Sl} {l:List Pai} (hd:zIE w x l) {k:Option Addr->Int->World->Prop} (H0:∀ w',newE l≠0->Bel w w'->k none (newE l) w')
  (H1:∀ b ρ w',newE l=0->Inv (newS l)->zBb (λk=>val (newS l).l k 1) l->Bel w w'->Mgr ρ w' b (newS l)->(∀ k,k<w.heap.size->ρ k=none)->k (ptrA b) 0 w'):
  Cl zA zKK [Sl.v x].toArray w (λe w'=>∃ (r0:Option Addr) (r1:Int),e=.returned (.tuple [.pointer r0,.int .i64 r1].toArray)/\k r0 r1 w'):=by
 refine zQj hd (λh=>?_) (λh1 h2 w' hb=>?_) (λh1 h2 h3 w' hb=>?_) λh1 h2 h3 b ρ w' hb hM hρ=>?_
 ·have e:newE l=3:=by unfold newE;rw [if_pos h]
  rw [e] at H0;exact H0 w (by decide) (Bel.refl _)
 ·have e:newE l=4:=by unfold newE;rw [if_neg (by omega),if_pos h2]
  rw [e] at H0;exact H0 w' (by decide) hb
 ·have e:newE l=2:=by unfold newE;rw [if_neg (by omega),if_neg (by simp [h2]),if_pos h3]
  rw [e] at H0;exact H0 w' (by decide) hb
 ·have e:newE l=0:=by unfold newE;rw [if_neg (by omega),if_neg (by simp [h2]),if_neg (by simp [h3])]
  exact H1 b ρ w' e (zOO h1 h2 h3) (zPL h3) hb hM hρ
theorem zOd {l:List Pai} (h:newE l=0):l.length<=4096:=by
 unfold newE at h
 split at h
 ·exact absurd h (by decide)
 ·omega
structure Two (w:World) (ba bb:Nat) (sa sb:St) (ρa ρb:Own) (W:World):Prop where
 ma:Mgr ρa W ba sa
 mb:Mgr ρb W bb sb
 dis:∀ k,ρa k≠none->ρb k=none
 bel:Bel w W
 la:∀ k,k<w.heap.size->ρa k=none
 lb:∀ k,k<w.heap.size->ρb k=none
section
variable {w W W':World} {ba bb:Nat} {sa sb s':St} {ρa ρb ρ':Own}
theorem Two.swap (h:Two w ba bb sa sb ρa ρb W):Two w bb ba sb sa ρb ρa W:=⟨h.mb,h.ma,λk hk=>Classical.byContradiction λh1=>hk (h.dis k h1),h.bel,h.lb,h.la⟩
theorem Two.a (h:Two w ba bb sa sb ρa ρb W) (hM:Mgr ρ' W' ba s') (hE:Ext ρa W ρ' W'):Two w ba bb s' sb ρ' ρb W' where
 ma:=hM
 mb:=h.mb.out hE.out λk hk=>h.dis k hk
 dis k hk:=by
  by_cases hk1:k<W.heap.size
  ·exact h.dis k (by rw [← hE.same k hk1];exact hk)
  ·cases hb:ρb k with
   |none=>rfl
   |some r=>have:=h.mb.lt k (by rw [hb];simp);omega
 bel:=hE.base h.bel h.la
 la:=hE.clear h.bel.le h.la
 lb:=h.lb
theorem Two.b (h:Two w ba bb sa sb ρa ρb W) (hM:Mgr ρ' W' bb s') (hE:Ext ρb W ρ' W'):Two w ba bb sa s' ρa ρ' W':=(h.swap.a hM hE).swap
theorem Two.more (h:Two w ba bb sa sb ρa ρb W) (hb:Bel W W'):Two w ba bb sa sb ρa ρb W':=⟨h.ma.bel hb,h.mb.bel hb,h.dis,h.bel.trans hb,h.la,h.lb⟩
theorem Two.new (h:Two w ba bb sa sb ρa ρb W) {k:Nat} (hk:W.heap.size<=k):ρa k=none/\ρb k=none:=by
 constructor
 ·cases hb:ρa k with
  |none=>rfl
  |some r=>have:=h.ma.lt k (by rw [hb];simp);omega
 ·cases hb:ρb k with
  |none=>rfl
  |some r=>have:=h.mb.lt k (by rw [hb];simp);omega
end
theorem zJq.keep {w w':World} {x:zv} {a:Ans} (h:zJq w x a) (hp:∀ q,(Sl.v x.Pairs).ownBlock=some q->w'.heap[q]?=w.heap[q]?) (hd:∀ q,(Sl.v x.Done).ownBlock=some q->w'.heap[q]?=w.heap[q]?):zJq w' x a:=
 ⟨h.1,h.2.1,h.2.2.1,h.2.2.2.1,h.2.2.2.2.1.keep hp,h.2.2.2.2.2.1.keep hd,h.2.2.2.2.2.2⟩
theorem zJP.ext {base:Nat} {ρ ρb ρ':Own} {W W':World} {y:zv} {a:Ans} (h:zJP base ρ W y a) (hE:Ext ρb W ρ' W') (hn:∀ k,base<=k->ρb k=none):zJq W' y a:=
 h.ans.keep (λq hq=>hE.blk (h.pairs.lt hq) (hn q (h.pairs.lo hq))) (λq hq=>hE.blk (h.done.lt hq) (hn q (h.done.lo hq)))
theorem zP8 (y:zv):y.cells.all (·.oneCell')=true:=by
 obtain ⟨a1,a2,a3,a4,⟨a5,a51,a52⟩,⟨a6,a61,a62⟩,a7⟩:=y
 cases a5<;>cases a6<;>rfl
end Go.Proofs.YtealcoghiaeiiaaGreatDoor.VG
set_option linter.unusedVariables false
set_option linter.unusedSimpArgs false
namespace Go.Proofs.YtealcoghiaeiiaaGreatDoor.VG
open Go.VB Go.Proofs Go.RowKit
theorem zMB {l:List Ver} {low:Int} (hg:zCu l low) (T:Int):zBb (λk=>val l k T) (zBq l noB noB T l.length):=by
 have h:=zJi hg.sorted noB noB T
 rw [zNS] at h;exact h
theorem zN9 {l:List Ver} {low:Int} (hg:zCu l low) {T:Int} {ys:List Pai} (h:zBb (λk=>val l k T) ys):ys.length<=l.length:=by
 rw [h.one (zMB hg T)];exact zIs l noB noB T l.length
theorem zMY {s s':St} {a:Ans} {x:yK} (h:Inv s) (hn:s.now+1<=maxT) (e:Eff s x s' a):
  (∀ key,val s'.l key s'.now=val s.l key s.now)/\a.done=[]∨∃ t,x.Kind=6/\s.tx x.Tx=some t/\s.l.any (conf t)=false/\a.why=0/\zEz t.wr a.done/\∀ key,val s'.l key s'.now=ovl t.wr (λk=>val s.l k s.now) key:=by
 have ho:∀ (u:St) n,(zBD u n).now=u.now:=λu n=>by unfold zBD zK3;split<;>rfl
 have hov:∀ n key,val (zBD s n).l key (zBD s n).now=val s.l key s.now:=λn key=>by
  rw [ho];exact zMA h (by omega) _ (by have:=(zGp h (by omega) n).lonow;rw [ho] at this;exact this) key
 cases e with
 |no e _=>exact .inl ⟨λ_=>rfl,rfl⟩
 |beg _ hc=>exact .inl ⟨λ_=>rfl,rfl⟩
 |get t _ ht _ hl=>exact .inl ⟨λ_=>rfl,rfl⟩
 |scan t _ ht hl=>exact .inl ⟨λ_=>rfl,rfl⟩
 |write t y hk ht hy hl=>exact .inl ⟨λ_=>rfl,rfl⟩
 |abort t _ ht=>exact .inl ⟨hov _,rfl⟩
 |fail t e _ ht _=>exact .inl ⟨hov _,rfl⟩
 |empty t _ ht _ _=>exact .inl ⟨hov _,rfl⟩
 |comm t ys k ht hc hS _ hp=>
  refine .inr ⟨t,k,ht,hc,rfl,hS,λkey=>?_⟩
  have hi:=zNZ h hp
  rw [ho,zMA hi hn _ (by have:=(zGp hi hn x.Tx).lonow;rw [ho] at this;exact this) key]
  exact zLp hp h.past hS (h.txok _ t ht).keyed key
theorem zP5 {s s':St} {a:Ans} {x:yK} (h:Inv s) (hn:s.now+1<=maxT) (e:Eff s x s' a) {cur:List Pai} (hc:zBb (λk=>val s.l k s.now) cur):zBb (λk=>val s'.l k s'.now) (allL cur a.done)/\(a.why≠0->a.done=[])/\a.done.length<=256:=by
 have hinv:=zNU h hn e
 rcases zMY h hn e with ⟨h1,h2⟩|⟨t,h1,h2,h3,h4,h5,h6⟩
 ·rw [h2]
  refine ⟨?_,λ_=>rfl,by simp⟩
  show zBb _ cur
  rw [show (λk=>val s'.l k s'.now)=λk=>val s.l k s.now from funext h1];exact hc
 ·refine ⟨?_,λhw=>absurd h4 hw,zPz h h2 h5⟩
  rw [show (λk=>val s'.l k s'.now)=ovl t.wr (λk=>val s.l k s.now) from funext h6,← zOQ h5 (h.txok _ t h2).keyed]
  exact zK5 _ hc
theorem _root_.Go.VB.OwnS.ext {α:Type} {c:α->List Value} {n e base:Nat} {ρ ρ':Own} {W W':World} {s:Sl} {xs:List α} (h:OwnS c n e base W s xs) (hρ:∀ q,(Sl.v s).ownBlock=some q->ρ q=none) (hE:Ext ρ W ρ' W'):
  OwnS c n e base W' s xs/\∀ q,(Sl.v s).ownBlock=some q->ρ' q=none:=
 ⟨h.keep λq hq=>hE.blk (h.lt hq) (hρ q hq),λq hq=>(hE.same q (h.lt hq)).trans (hρ q hq)⟩
theorem Mgr.new {ρ:Own} {w:World} {b:Nat} {s:St} (h:Mgr ρ w b s) {k:Nat} (hk:w.heap.size<=k):ρ k=none:=by
 cases hb:ρ k with
 |none=>rfl
 |some r=>have:=h.lt k (by rw [hb];simp);omega
structure Bl (s:St) (os:List Int):Prop where
 inv:Inv s
 dom:Doms s.tx os
 rds:∀ n t,s.tx n=some t->t.reads=[]
theorem Bl.len {s:St} {os:List Int} (h:Bl s os):os.length<=16:=by
 obtain ⟨ks,hd,hl⟩:=h.inv.dom
 rw [zMH h.dom hd];exact hl
end Go.Proofs.YtealcoghiaeiiaaGreatDoor.VG
