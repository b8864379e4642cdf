/- Texts by which the law's calls are walked (part 8): rules, printed conditions, contracts; no condition. -/
import Derived.TacticsIn
import Derived.TacticsInMore
import Derived.Deep.LoopGhost
import Derived.Sort.QuietThIn
import Derived.RangeFuncCalls
import Derived.RangeFuncNested
import Derived.RangeFuncLeaves
import Derived.WalkKit
import Derived.StillTail
import Derived.Test.YtealcoghiaeiiaaGreatProg
import Derived.KernelRfl
import Derived.Deep.WholeRow
import Derived.Laws.StructEq
import Derived.MapFrom
import Derived.Laws.CopyRow
import Derived.Maps.RangeRun
import Derived.Sort.Walk0
import Derived.RangeFuncBound
import Derived.Test.YtealcoghiaeiiaaGreatPkTxnPeeksG
open Go.Proofs.Tryz renaming prog → zA
open Go.IntKind renaming wrap → zB
open Go.Value renaming pointer → zC, int → zU, string → za, bool → xh
open Go.Instr renaming loadAt → zD, storeAt → zJ, indexAt → zF, fieldAt → zN, alloc → zh, build → QO, buildSlice → zr
open Nat renaming le_refl → zV, le_trans → zl, lt_of_lt_of_le → QR
open List renaming length_append → yO
set_option linter.unusedVariables false
namespace Go.Proofs.YtealcoghiaeiiaaGreat.VG
open Go.VB Go.VB.Srt Go.Proofs Go.RowKit
theorem zNc {w u W:World} {x1:Sl} {l:List Ver} {m:List Wri} {low t:Int} {B5 B6 B9:Nat} {r:Sl} (hm:zIK w x1 m) (hbu:Bel w u) (hs:l.Pairwise vlt) (hn:(zEm m).Nodup) (hl:∀ y∈l,y.At<t) (hlen:l.length+m.length<=4096)
  (h5:Row u B5 [.int .u64 t] zH7) (h6:Row u B6 zGX yA) (hB6:w.heap.size<=B6) (hR:Row W B9 [Sl.v r,.int .u64 low] yA) (hO:ZY u.heap.size W r l) (hb:Bel u W) (hB9:u.heap.size<=B9)
  {k:zP->Int->World->Prop} (H:∀ r w' base,w.heap.size<=base->ZY base w' r (putL l t m)->Bel w w'->k ⟨r,low⟩ 0 w'):
  zC9 x1 k (some ⟨B5,0,none⟩) (some ⟨B6,0,none⟩) (some ⟨B9,0,none⟩) W:=by
 have dbig:=hm.big;have dcap:=hm.cap;have dlen:=hm.len
 have hwu:=hbu.le
 have lt6:=h6.lt
 unfold zC9
 refine ⟨λi W'=>∃ (n:Nat) (sl:Sl),i=(n:Int)/\n<=m.length/\Row W' B9 [Sl.v sl,.int .u64 low] yA/\ZY u.heap.size W' sl (l++(m.take n).map (mk t))/\Bel u W',λi _=>(x1.len - i).toNat,⟨0,r,rfl,by omega,hR,by simpa using hO,hb⟩,?_⟩
 rintro i W' ⟨n,sl,rfl,hnn,hR',hO',hb'⟩
 unfold zFL
 refine ⟨λhlt=>?_,λhlt=>?_⟩
 ·obtain ⟨d,hdn⟩:=getW (l:=m) (n:=n) (by omega)
  have hmk:(m.take (n+1)).map (mk t)=(m.take n).map (mk t)++[mk t d]:=by rw [zCy hdn,List.map_append];rfl
  refine zFX (hm.bel (hbu.trans hb')) zBa zCw (by omega) (x:=d) (by simpa using hdn) λad hA=>?_
  refine zBb YO d rfl hA rfl ?_
  refine zCs zBk rfl YO (cs:=d.cells) rfl rfl rfl λC w3 b3 hX hC=>?_
  refine yJ Yt zp hX.at d.Key rfl ?_
  refine zA2 yF t ((h5.bel hb').bel b3).cell ?_
  refine yJ zCH zp hX.at d.Val rfl ?_
  refine yJ zCm zC1 hX.at d.Gone rfl ?_
  refine ⟨⟨d.Key,t,d.Val,d.Gone⟩,w3,by kernel_rfl,?_⟩
  refine zCs zBY rfl yM (cs:=(⟨d.Key,t,d.Val,d.Gone⟩:Ver).cells) rfl rfl rfl λC2 w4 b4 hY hC2=>?_
  have b34:=b3.trans b4
  have hb4:=hb'.trans b34
  refine yJ zCm zC1 (hX.bel b4).at d.Gone rfl ?_
  have j5:∀ w5,Row w5 C2 (mk t d).cells yE->Row w5 B9 [Sl.v sl,.int .u64 low] yA->ZY u.heap.size w5 sl (l++(m.take n).map (mk t))->Bel u w5->
    zDA (some ⟨B9,0,none⟩) n (λ(i':Int) (w':World)=>(∃ (n:Nat) (sl:Sl),i'=(n:Int)/\n<=m.length/\Row w' B9 [Sl.v sl,.int .u64 low] yA/\ZY u.heap.size w' sl (l++(m.take n).map (mk t))/\Bel u w')/\(x1.len - i').toNat<(x1.len - (n:Int)).toNat) (some ⟨C2,0,none⟩) w5:=by
   intro w5 r1 r2 r3 r4
   unfold zDA
   refine zN8 (w0:=u) r2 r3 r1.at r4 (zV _) r4.le hB9 (by rw [yO,List.length_map,List.length_take];omega) λs' W5 q1 q2 q3 q4=>?_
   rw [wr64 (by omega) (by omega)]
   exact ⟨⟨n+1,s',by omega,by omega,q1,by rw [hmk,← List.append_assoc];exact q2,q3⟩,by omega⟩
  have hb'le:=hb'.le
  have b3le:=b3.le
  refine ⟨λhg=>?_,λhg=>?_⟩
  ·refine ⟨_,_,zBc _ w4,?_⟩
   refine zH1 zp (off:=2) hY rfl (by simp) rfl λw5 hZ hg5=>?_
   refine j5 w5 ?_ (((hR'.bel b34)).grown hg5 (λe=>?_)) ((hO'.bel b34).kept hg5 ?_) (hb4.grown hg5 λr hr=>by cases hr;omega)
   ·rw [show (mk t d)=⟨d.Key,t,noB,d.Gone⟩ by unfold mk;rw [if_pos hg]];simpa using hZ
   ·have h1:=hR'.lt;have h2:=Option.some.inj e;omega
   ·cases ho:(Sl.v sl).ownBlock with
    |none=>exact .inl rfl
    |some q=>exact .inr λe=>by have h8:=(hO'.row.lt q ho).2;have h9:=Option.some.inj e;omega
  ·exact j5 w4 (by rw [show (mk t d)=⟨d.Key,t,d.Val,d.Gone⟩ by unfold mk;rw [if_neg (by rw [hg];decide)]];exact hY) (hR'.bel b34) (hO'.bel b34) hb4
 ·obtain rfl:n=m.length:=by omega
  rw [List.take_length] at hO'
  refine yJ yC yB hR'.at sl rfl ?_
  refine SoCmpFunc_api_Version.sort_ok zOY zMT hO' λys w3 hp hle hO3 hg3=>?_
  have hys:=zPY hs hn hl hp hle
  subst hys
  have hR3:=hR'.grown hg3 (OwnS.ne_row hO' hR' (by decide))
  refine zBb z6 ⟨sl,low⟩ rfl hR3.at rfl ?_
  have hb3:Bel u w3:=hb'.grown hg3 λr hr=>hO'.lo hr
  refine zJ0 (h6.bel hb3) rfl λw4 hg4=>?_
  have hb6:Bel w w4:=(hbu.trans hb3).grown hg4 λr hr=>by cases hr;exact hB6
  refine H sl w4 u.heap.size hwu (hO3.kept hg4 ?_) hb6
  cases ho:(Sl.v sl).ownBlock with
  |none=>exact .inl rfl
  |some q=>exact .inr λe=>by have h8:=hO3.lo ho;have h9:=Option.some.inj e;omega
theorem zNS {w:World} {x0:zP} {x1:Sl} {l:List Ver} {m:List Wri} (h:zEg w x0.List l) (hm:zIK w x1 m) (t:Int) {k:zP->Int->World->Prop}
  (H:∀ r w' base,w.heap.size<=base->ZY base w' r (vput l x0.Low m t).1->Bel w w'->k ⟨r,(vput l x0.Low m t).2.1⟩ (vput l x0.Low m t).2.2 w'):
  Cl zA zLy [zP.v x0,Sl.v x1,.int .u64 t].toArray w (λe w'=>∃ (r0:zP) (r1:Int),e=.returned (.tuple [zP.v r0,.int .i64 r1].toArray)/\k r0 r1 w'):=by
 refine zLd x0 x1 t w k ?_
 have hbig:=h.big;have hcap:=h.cap;have hlen:=h.len
 have dbig:=hm.big;have dcap:=hm.cap;have dlen:=hm.len
 unfold zIP
 refine zAb (cs:=x0.cells) rfl λB3 w1 b1 hV hB3=>?_
 refine zAb (cs:=[.int .u64 t]) rfl λB5 w2 b2 hT hB5=>?_
 refine zEv zAW λB6 w3 b3 hZ hB6=>?_
 have b03:=(b1.trans b2).trans b3
 have w1le:=b1.le;have w2le:=b2.le
 replace hV:=(hV.bel b2).bel b3
 replace hT:=hT.bel b3
 refine zBb z6 x0 rfl hV.at rfl ?_
 refine zI7 (h.bel b03) λw4 b4=>?_
 have b04:=b03.trans b4
 have J2:∀ (c:Int) W,Bel w4 W->c=pwhy l x0.Low m t->zBL x1 k (some ⟨B3,0,none⟩) (some ⟨B5,0,none⟩) (some ⟨B6,0,none⟩) c W:=by
  intro c W hb hc
  have b0W:=b04.trans hb
  have hZW:=(hZ.bel b4).bel hb
  unfold vput at H
  rw [← hc] at H
  unfold zBL
  refine ⟨λhne=>?_,λhz=>?_⟩
  ·rw [if_pos hne] at H
   refine ⟨zK3,W,by kernel_rfl,?_⟩
   have hbg:∀ W',W.grownBy W' (some B6)->Bel w W':=λW' hg=>b0W.grown hg λr hr=>by cases hr;omega
   exact zJ0 hZW rfl λW' hg=>H Sl.none W' W'.heap.size (hbg W' hg).le (OwnS.nil _ _ _ _ _) (hbg W' hg)
  rw [if_neg hz] at H
  obtain ⟨g1,g2,g3,g4,g5,g6,g7⟩:=zIB.1 (hc ▸ Classical.not_not.1 hz:pwhy l x0.Low m t=0)
  have hnd:=(zFA.1 g2).2.2
  refine ⟨Bel W,λu bu=>⟨bu,?_⟩⟩
  have b0u:=b0W.trans bu
  have hVu:=((hV.bel b4).bel hb).bel bu
  have hTu:=((hT.bel b4).bel hb).bel bu
  have hZu:=hZW.bel bu
  have hVb:∀ W',Bel W W'->Row W' B3 x0.cells yA:=λW' hw=>((hV.bel b4).bel hb).bel hw
  refine zFf yC ?_
  refine zFf zAZ ?_
  refine zC5 yB x0.List (λW' hW'=>(hVb W' hW').at.fld rfl) ?_
  refine zC5 yF x0.Low (λW' hW'=>(hVb W' hW').at.fld rfl) ?_
  have fin:=λ(r:Sl) (B9:Nat) (W':World) (hR:Row W' B9 [Sl.v r,.int .u64 x0.Low] yA) (hO:ZY u.heap.size W' r l) (hb':Bel u W') (hB9:u.heap.size<=B9)=>zNc (low:=x0.Low) (k:=k) hm b0u g1.sorted hnd g6 g7 hTu hZu (by omega) hR hO hb' hB9 H
  constructor
  ·refine zL9 (h.bel b0u) (by omega) λr W1 hO c1=>?_
   refine ⟨bu.trans c1,?_⟩
   refine ⟨⟨r,x0.Low⟩,λW' _=>by kernel_rfl,?_⟩
   refine zEv zAW λB9 W2 c2 hR hB9=>?_
   refine ⟨(bu.trans c1).trans c2,?_⟩
   have c1le:=c1.le
   refine zHZ z6 hR rfl rfl rfl λW3 hR3 hg3=>?_
   have c3:Bel u W3:=(c1.trans c2).grown hg3 λr hr=>by cases hr;omega
   exact ⟨bu.trans c3,fin r B9 W3 hR3 ((hO.bel c2).kept hg3 (.inr (OwnS.ne_row (hO.bel c2) hR (by decide)))) c3 (by omega)⟩
  ·refine zEv zAW λB9 W1 c1 hR hB9=>?_
   refine ⟨bu.trans c1,?_⟩
   refine zL9 (h.bel (b0u.trans c1)) (by omega) λr W2 hO c2=>?_
   refine ⟨(bu.trans c1).trans c2,?_⟩
   refine ⟨⟨r,x0.Low⟩,λW' _=>by kernel_rfl,?_⟩
   have hR2:=hR.bel c2
   refine zHZ z6 hR2 rfl rfl rfl λW3 hR3 hg3=>?_
   have c3:Bel u W3:=(c1.trans c2).grown hg3 λr hr=>by cases hr;omega
   have hO':ZY u.heap.size W2 r l:=⟨hO.len,hO.small,hO.row.1,by
    rcases hO.row.2 with h1|⟨g,cap,cur,p1,p2,p3⟩
    ·exact .inl h1
    ·exact .inr ⟨g,cap,cur,p1,zl c1.le p2,p3⟩⟩
   exact ⟨bu.trans c3,fin r B9 W3 hR3 (hO'.kept hg3 (.inr (OwnS.ne_row hO' hR2 (by decide)))) c3 hB9⟩
 have J1:∀ (c:Int) W,Bel w4 W->(c≠0->c=pwhy l x0.Low m t)->(c=0->vchk l x0.Low=0/\zGm m=0)->zC7 x1 k (some ⟨B3,0,none⟩) (some ⟨B5,0,none⟩) (some ⟨B6,0,none⟩) c W:=by
  intro c W hb hc1 hc2
  have b0W:=b04.trans hb
  unfold zC7
  refine ⟨λhne=>J2 c W hb (hc1 hne),λhz=>?_⟩
  obtain rfl:c=0:=Classical.not_not.1 hz
  obtain ⟨e1,e2⟩:=hc2 rfl
  have hp:pwhy l x0.Low m t=if t<1∨2305843009213693952<t then 2 else if t<x0.Low∨(∃ x∈l,t<=x.At) then 9 else if 4096<l.length+m.length then 3 else 0:=by
   unfold pwhy;rw [if_neg (by simp [e1]),if_neg (by simp [e2])]
  have hg:=(zFh.1 e1).len
  have hm4:=(zFA.1 e2).1
  have hTW:=(hT.bel b4).bel hb
  have hVW:=(hV.bel b4).bel hb
  refine zA2 yF t hTW.cell ?_
  have r7t:(t<1∨2305843009213693952<t)->zDB x1 k (some ⟨B3,0,none⟩) (some ⟨B5,0,none⟩) (some ⟨B6,0,none⟩) 0 true W:=λht=>⟨λ_=>J2 2 W hb (by rw [hp,if_pos ht]),λh=>(nomatch h)⟩
  refine ⟨λht=>r7t (.inl ht),λht=>?_⟩
  refine zA2 yF t hTW.cell ?_
  by_cases ht2:2305843009213693952<t
  ·rw [decide_eq_true ht2];exact r7t (.inr ht2)
  rw [decide_eq_false ht2]
  rw [if_neg (by omega)] at hp
  unfold zDB
  refine ⟨λh=>(nomatch h),λ_=>?_⟩
  refine zA2 yF t hTW.cell ?_
  refine yJ zAZ yF hVW.at x0.Low rfl ?_
  have r8t:∀ W',Bel w4 W'->(t<x0.Low∨(∃ x∈l,t<=x.At))->zDC x1 k (some ⟨B3,0,none⟩) (some ⟨B5,0,none⟩) (some ⟨B6,0,none⟩) 0 true W':=λW' hb' ht=>⟨λ_=>J2 9 W' hb' (by rw [hp,if_pos ht]),λh=>(nomatch h)⟩
  refine ⟨λhlo=>r8t W hb (.inl hlo),λhlo=>?_⟩
  refine yJ yC yB hVW.at x0.List rfl ?_
  refine zLV (h.bel b0W) hTW λb W1 hbb b5=>?_
  cases b with
  |true=>exact r8t W1 (hb.trans b5) (.inr (hbb.1 rfl))
  |false=>
   rw [if_neg (λhx=>by
    rcases hx with h1|h1
    ·exact hlo h1
    ·have:=hbb.2 h1;cases this)] at hp
   unfold zDC
   refine ⟨λh=>(nomatch h),λ_=>?_⟩
   refine yJ yC yB (hVW.bel b5).at x0.List rfl ?_
   rw [wr64 (by omega) (by omega)]
   exact ⟨λh4=>J2 3 W1 (hb.trans b5) (by rw [hp,if_pos (by omega)]),λh4=>J2 0 W1 (hb.trans b5) (by rw [hp,if_neg (by omega)])⟩
 refine ⟨λhc=>?_,λhc=>J1 _ w4 (Bel.refl _) (λ_=>by unfold pwhy;rw [if_pos hc]) (λh=>absurd h hc)⟩
 refine zNf (hm.bel b04) λw5 b5=>?_
 exact J1 _ w5 b5 (λhne=>by unfold pwhy;rw [if_neg (by simp [hc]),if_pos hne]) (λhz=>⟨hc,hz⟩)
end Go.Proofs.YtealcoghiaeiiaaGreat.VG
set_option linter.unusedVariables false
namespace Go.Proofs.YtealcoghiaeiiaaGreat.VG
open Go.VB Go.VB.Srt Go.Proofs Go.RowKit
theorem zQf {w:World} {x y:Pai} {o1 o2:Operand} {k:Bool->Prop} (H:∀ b:Bool,(b=true↔¬ x=y)->k b):
  opB zA xh (do eqGuard .neq zA3 o1 o2 (zL.v x) (zL.v y);binOp .neq zA3 (zL.v x) (zL.v y)) w k:=by
 obtain ⟨r,h1,h2⟩:=zK8 x y o1 o2
 exact ⟨r,λw' _=>h1 w',H r h2⟩
theorem zOG {w:World} {x0 x1:Sl} {l m:List Pai} (h:zJT w x0 l) (h':zJT w x1 m) {k:Bool->World->Prop} (H:∀ r w',(r=true↔l=m)->Bel w w'->k r w'):
  Cl zA zIF [Sl.v x0,Sl.v x1].toArray w (λe w'=>∃ r0:Bool,e=.returned (.bool r0)/\k r0 w'):=by
 refine zIH x0 x1 w k ?_
 have hbig:=h.big;have hcap:=h.cap;have hlen:=h.len;have hlen':=h'.len
 unfold zEw
 refine ⟨λhc=>H false w ⟨λh=>(nomatch h),λh=>?_⟩ (Bel.refl _),λhc=>?_⟩
 ·subst h;omega
 have hc':(x0.len:Int)=x1.len:=Classical.not_not.1 hc
 refine ⟨λx w1=>∃ n:Nat,x=(n:Int)/\n<=l.length/\Bel w w1/\l.take n=m.take n,λx _=>(x0.len - x).toNat,⟨0,rfl,by omega,Bel.refl _,rfl⟩,?_⟩
 rintro x w1 ⟨n,rfl,hn,hb,hq⟩
 unfold zBf
 refine ⟨λhc=>?_,λhc=>?_⟩
 ·obtain ⟨e,he⟩:∃ e,l[n]?=some e:=⟨l[n]'(by omega),by simp⟩
  obtain ⟨f,hf⟩:∃ f,m[n]?=some f:=⟨m[n]'(by omega),by simp⟩
  refine zH3 (h.bel hb) ZI zAn (by omega) (x:=e) (by simpa using he) λad hA=>?_
  refine zHW zAM e rfl hA rfl ?_
  refine zH3 (h'.bel hb) ZI zAn (by omega) (x:=f) (by simpa using hf) λad' hA'=>?_
  refine zHW zAM f rfl hA' rfl ?_
  refine zQf λb hbb=>?_
  intro w2 hb2
  refine ⟨λht=>H false w2 ⟨λh=>(nomatch h),λh=>?_⟩ (hb.trans hb2),λhf0=>?_⟩
  ·subst h;rw [he] at hf;exact absurd (Option.some.inj hf) (hbb.1 ht)
  ·have hef:e=f:=Classical.not_not.1 λh=>by rw [hbb.2 h] at hf0;cases hf0
   subst hef
   rw [wr64 (by omega) (by omega)]
   exact ⟨⟨n+1,by omega,by omega,hb.trans hb2,zI5 hq he hf⟩,by dsimp only;omega⟩
 ·obtain rfl:n=l.length:=by omega
  refine H true w1 ⟨λ_=>?_,λ_=>rfl⟩ hb
  rw [List.take_length,List.take_of_length_le (by omega)] at hq
  exact hq
abbrev tA:ByteArray:=ByteArray.mk #[97]
abbrev t1:ByteArray:=ByteArray.mk #[49]
abbrev t2:ByteArray:=ByteArray.mk #[50]
end Go.Proofs.YtealcoghiaeiiaaGreat.VG
set_option linter.unusedVariables false
namespace Go.Proofs.YtealcoghiaeiiaaGreat.VG
open Go.VB Go.VB.Srt Go.Proofs Go.RowKit
theorem zLc {low:Int} {x z:Ver} {o:Option Ver}:z∈zCM low x o↔z=x/\(∀ y,o=some y->y.Key=x.Key->low<y.At)/\¬ (x.Gone=true/\x.At<=low):=by
 unfold zCM
 by_cases h1:∃ y,o=some y/\y.Key=x.Key/\y.At<=low
 ·rw [if_pos h1]
  obtain ⟨y,h2,h3,h4⟩:=h1
  exact ⟨λh=>(nomatch h),λh=>by have:=h.2.1 y h2 h3;omega⟩
 ·rw [if_neg h1]
  by_cases h2:x.Gone=true/\x.At<=low
  ·rw [if_pos h2];exact ⟨λh=>(nomatch h),λh=>absurd h2 h.2.2⟩
  ·rw [if_neg h2]
   refine ⟨λh=>⟨by simpa using h,λy h3 h4=>Int.not_le.1 λh5=>h1 ⟨y,h3,h4,h5⟩,h2⟩,λh=>by simp [h.1]⟩
theorem zM9 {low:Int} {z:Ver}:∀ {l:List Ver},l.Pairwise vlt->(z∈swp low l↔z∈l/\(∀ y∈l,y.Key=z.Key->z.At<y.At->low<y.At)/\¬ (z.Gone=true/\z.At<=low))
 |[],_=>by simp [swp]
 |x::r,hs=>by
  rw [List.pairwise_cons] at hs
  rw [swp,List.mem_append,zLc,zM9 hs.2]
  have hxr:∀ y∈r,y.Key=x.Key->x.At<y.At:=λy hy hk=>by
   rcases hs.1 y hy with h|h
   ·rw [hk] at h;exact absurd h (zAs _)
   ·exact h.2
  constructor
  ·rintro (⟨rfl,h1,h2⟩|⟨h1,h2,h3⟩)
   ·refine ⟨by simp,λy hy hk hlt=>?_,h2⟩
    rcases List.mem_cons.1 hy with h3|h3
    ·subst h3;omega
    ·cases r with
     |nil=>simp at h3
     |cons h r=>
      rcases List.mem_cons.1 h3 with h4|h4
      ·subst h4;exact h1 y rfl hk
      ·have h5:=(List.pairwise_cons.1 hs.2).1 y h4
       have h6:=hs.1 h (by simp)
       have hhk:h.Key=z.Key:=by
        rcases h5 with h5|h5
        ·rcases h6 with h6|h6
         ·rw [hk] at h5;exact absurd h6 (zHB h5)
         ·exact h6.1.symm
        ·exact h5.1.trans hk
       have h7:=h1 h rfl hhk
       rcases h5 with h5|h5
       ·rw [hk,hhk] at h5;exact absurd h5 (zAs _)
       ·omega
   ·refine ⟨List.mem_cons_of_mem _ h1,λy hy hk hlt=>?_,h3⟩
    rcases List.mem_cons.1 hy with h4|h4
    ·subst h4
     have:=hxr z h1 hk.symm
     omega
    ·exact h2 y h4 hk hlt
  ·rintro ⟨h1,h2,h3⟩
   rcases List.mem_cons.1 h1 with h4|h4
   ·left
    subst h4
    refine ⟨rfl,λy hy hk=>?_,h3⟩
    have hyr:y∈r:=List.mem_of_mem_head? hy
    exact h2 y (List.mem_cons_of_mem _ hyr) hk (hxr y hyr hk)
   ·right
    exact ⟨h4,λy hy=>h2 y (List.mem_cons_of_mem _ hy),h3⟩
theorem zLl (low:Int) (x:Ver) (o:Option Ver):(zCM low x o).Sublist [x]:=by
 unfold zCM;split
 ·exact List.nil_sublist _
 ·split
  ·exact List.nil_sublist _
  ·exact List.Sublist.refl _
theorem zJf (low:Int):∀ l:List Ver,(swp low l).Sublist l
 |[]=>List.Sublist.refl _
 |x::r=>by
  rw [swp]
  exact (zLl low x r.head?).append (zJf low r)
theorem zOy {l:List Ver} {low0 low:Int} (h:zD1 l low0) (hl:low<=2305843009213693952):zD1 (swp low l) low:=
 zJe (zl (zLP low l) h.len) hl (λx hx=>h.made ((zJf low l).subset hx)) (h.sorted.sublist (zJf low l))
theorem zNg {l:List Ver} {low0 low:Int} (h:(zDP l low0 low).2.2=0):zD1 l low0/\low0<=low/\low<=2305843009213693952/\zDP l low0 low=(swp low l,low,0):=by
 unfold zDP at h ⊢
 by_cases h1:vchk l low0=0
 case neg=>rw [if_pos h1] at h;exact absurd h h1
 rw [if_neg (by simp [h1])] at h ⊢
 by_cases h2:low<low0
 ·rw [if_pos h2] at h;exact absurd h (by decide)
 rw [if_neg h2] at h ⊢
 by_cases h3:2305843009213693952<low
 ·rw [if_pos h3] at h;exact absurd h (by decide)
 rw [if_neg h3]
 exact ⟨zFh.1 h1,by omega,by omega,rfl⟩
theorem zNo {l:List Ver} {low0 low:Int} (h:zD1 l low0) (h1:low0<=low) (h2:low<=2305843009213693952):zDP l low0 low=(swp low l,low,0):=by
 unfold zDP;rw [if_neg (by simp [zJE h]),if_neg (by omega),if_neg (by omega)]
theorem zKE {l:List Ver} {t:Int} {m:List Wri} {x:Ver}:x∈putL l t m↔x∈l∨∃ w∈m,mk t w=x:=by
 rw [(zJC t m l).mem_iff,List.mem_append,List.mem_map]
theorem zPa {l:List Ver} {low:Int} {m:List Wri} {t:Int} (h:(vput l low m t).2.2=0):pwhy l low m t=0/\vput l low m t=(putL l t m,low,0):=by
 unfold vput at h ⊢
 by_cases h1:pwhy l low m t=0
 ·rw [if_neg (by simp [h1])];exact ⟨h1,rfl⟩
 ·rw [if_pos h1] at h;exact absurd h h1
theorem zPJ {t:Int} {w:Wri} (h1:1<=t) (h2:t<=2305843009213693952) (hw:¬ zBI w):Made (mk t w):=by
 have h3:w.Key.size<=256:=Nat.not_lt.1 λh=>hw (.inl h)
 have h4:w.Val.size<=512:=Nat.not_lt.1 λh=>hw (.inr h)
 refine ⟨h1,h2,λhg=>?_,h3,?_⟩
 ·unfold mk at hg ⊢;simp only at hg ⊢;rw [if_pos hg]
 ·unfold mk;simp only;split
  ·decide
  ·exact h4
theorem zJ1 {l:List Ver} {low:Int} {m:List Wri} {t:Int} (h:pwhy l low m t=0):(putL l t m).Pairwise vlt:=by
 obtain ⟨g1,g2,g3,g4,g5,g6,g7⟩:=zIB.1 h
 exact zHY m l g1.sorted (zFA.1 g2).2.2 λw _ y hy _=>g6 y hy
theorem zOp {l:List Ver} {low:Int} {m:List Wri} {t:Int} (h:pwhy l low m t=0):zD1 (putL l t m) low:=by
 obtain ⟨g1,g2,g3,g4,g5,g6,g7⟩:=zIB.1 h
 refine zJe (by rw [zMK];exact g7) g1.low (λx hx=>?_) (zJ1 h)
 rcases zKE.1 hx with h1|⟨w,h1,rfl⟩
 ·exact g1.made h1
 ·exact zPJ g3 g4 ((zFA.1 g2).2.1 w h1)
theorem zPO {l:List Ver} {low t:Int} (hg:zD1 l low) (ht:low<=t) (key:ByteArray):vget l low key t=((outV (sees l key t)).1,(outV (sees l key t)).2,0):=by
 unfold vget;rw [if_neg (by rw [zGs.2 ⟨hg,ht⟩];decide)]
end Go.Proofs.YtealcoghiaeiiaaGreat.VG
set_option linter.unusedVariables false
namespace Go.Proofs.YtealcoghiaeiiaaGreat.VG
open Go.VB Go.Proofs Go.RowKit
abbrev Spn:=z7
structure Tx where
 began:Int
 reads:List Spn
 wr:ByteArray->Option Wri
structure St where
 l:List Ver
 low:Int
 now:Int
 given:Int
 tx:Int->Option Tx
inductive Role where
 |mg
 |om
 |ve
 |tb (n:Int)
 |wb (n:Int)
 |rb (n:Int)
structure Gh where
 tb:Nat
 wb:Nat
 rs:Sl
abbrev Own:=Nat->Option Role
structure TxAt (ρ:Own) (w:World) (n:Int) (t:Tx) (g:Gh):Prop where
 row:Row w g.tb [.int .u64 t.began,Sl.v g.rs,.map (some g.wb)] zA1
 rtb:ρ g.tb=some (.tb n)
 rd:OwnS z7.cells 3 zJS 0 w g.rs t.reads
 rrd:∀ k,(Sl.v g.rs).ownBlock=some k->ρ k=some (.rb n)
 wr:Zk za zI.v w g.wb t.wr
 rwb:ρ g.wb=some (.wb n)
structure zCQ (ρ:Own) (w:World) (b:Nat) (s:St) (vs:Sl) (mb:Nat) (g:Int->Gh):Prop where
 row:Row w b [Sl.v vs,.int .u64 s.low,.int .u64 s.now,.int .i64 s.given,.map (some mb)] Zf
 rmg:ρ b=some .mg
 vers:zEg w vs s.l
 rve:∀ k,(Sl.v vs).ownBlock=some k->ρ k=some .ve
 mp:Zk (zU .i64) zC w mb (λn=>(s.tx n).map λ_=>some ⟨(g n).tb,0,none⟩)
 rom:ρ mb=some .om
 tx:∀ n t,s.tx n=some t->TxAt ρ w n t (g n)
 lt:∀ k,ρ k≠none->k<w.heap.size
def Mgr (ρ:Own) (w:World) (b:Nat) (s:St):Prop:=∃ vs mb g,zCQ ρ w b s vs mb g
structure Ext (ρ:Own) (w:World) (ρ':Own) (w':World):Prop where
 out:Out (λk=>ρ k≠none) w w'
 same:∀ k,k<w.heap.size->ρ' k=ρ k
section
variable {ρ ρ' ρ'':Own} {w w' w'':World} {b:Nat} {s:St} {n:Int} {t:Tx} {g:Gh}
theorem Ext.refl (ρ:Own) (w:World):Ext ρ w ρ w:=⟨Out.refl _ w,λ_ _=>rfl⟩
theorem Ext.bel (h:Bel w w'):Ext ρ w ρ w':=⟨h.out,λ_ _=>rfl⟩
theorem Ext.grown {k:Nat} {r:Role} (h:w.grownBy w' (some k)) (hk:ρ k=some r):Ext ρ w ρ w':=
 ⟨Out.row h λi hi=>by injection hi with hi;subst hi;exact .inl (by rw [hk];simp),λ_ _=>rfl⟩
theorem Ext.trans (h:Ext ρ w ρ' w') (k:Ext ρ' w' ρ'' w''):Ext ρ w ρ'' w'':=
 ⟨h.out.trans k.out λi hi hr=>by rw [h.same i hi] at hr;exact hr,λi hi=>(k.same i (QR hi h.out.size)).trans (h.same i hi)⟩
theorem Ext.base {w0:World} (hb:Bel w0 w) (h:Ext ρ w ρ' w') (hr:∀ k,k<w0.heap.size->ρ k=none):Bel w0 w':=h.out.bel hb λi hi h1=>h1 (hr i hi)
theorem Ext.clear {n0:Nat} (h:Ext ρ w ρ' w') (hn:n0<=w.heap.size) (hr:∀ k,k<n0->ρ k=none):∀ k,k<n0->ρ' k=none:=λk hk=>(h.same k (QR hk hn)).trans (hr k hk)
theorem Ext.blk (h:Ext ρ w ρ' w') {k:Nat} (hk:k<w.heap.size) (hr:ρ k=none):w'.heap[k]?=w.heap[k]?:=h.out.block k hk λh1=>h1 hr
theorem TxAt.lt (h:TxAt ρ w n t g) {k:Nat} {r:Role}:g.tb<w.heap.size:=h.row.lt
theorem TxAt.keep (h:TxAt ρ w n t g) (hlt:∀ k,ρ k≠none->k<w.heap.size) (hρ:∀ k,k<w.heap.size->ρ' k=ρ k) (h1:∀ k,ρ k=some (.tb n)->w'.heap[k]?=w.heap[k]?) (h2:∀ k,ρ k=some (.wb n)->w'.heap[k]?=w.heap[k]?) (h3:∀ k,ρ k=some (.rb n)->w'.heap[k]?=w.heap[k]?):TxAt ρ' w' n t g where
 row:=h.row.keep (h1 _ h.rtb)
 rtb:=(hρ _ (hlt _ (by rw [h.rtb];simp))).trans h.rtb
 rd:=h.rd.keep λk hk=>h3 k (h.rrd k hk)
 rrd k hk:=(hρ _ (hlt _ (by rw [h.rrd k hk];simp))).trans (h.rrd k hk)
 wr:=h.wr.keep (h2 _ h.rwb)
 rwb:=(hρ _ (hlt _ (by rw [h.rwb];simp))).trans h.rwb
theorem zCQ.keep {vs:Sl} {mb:Nat} {gh:Int->Gh} (h:zCQ ρ w b s vs mb gh) (hs:w.heap.size<=w'.heap.size) (hk:∀ k,ρ k≠none->w'.heap[k]?=w.heap[k]?):zCQ ρ w' b s vs mb gh where
 row:=h.row.keep (hk _ (by rw [h.rmg];simp))
 rmg:=h.rmg
 vers:=h.vers.keep λk h1=>hk k (by rw [h.rve k h1];simp)
 rve:=h.rve
 mp:=h.mp.keep (hk _ (by rw [h.rom];simp))
 rom:=h.rom
 tx n t ht:=(h.tx n t ht).keep h.lt (λ_ _=>rfl) (λk h1=>hk k (by rw [h1];simp)) (λk h1=>hk k (by rw [h1];simp)) (λk h1=>hk k (by rw [h1];simp))
 lt k h1:=QR (h.lt k h1) hs
theorem zCQ.bel {vs:Sl} {mb:Nat} {gh:Int->Gh} (h:zCQ ρ w b s vs mb gh) (hb:Bel w w'):zCQ ρ w' b s vs mb gh:=h.keep hb.size λk h1=>hb.block k (h.lt k h1)
theorem zCQ.out {S:Nat->Prop} {vs:Sl} {mb:Nat} {gh:Int->Gh} (h:zCQ ρ w b s vs mb gh) (hb:Out S w w') (hS:∀ k,S k->ρ k=none):zCQ ρ w' b s vs mb gh:=
 h.keep hb.size λk h1=>hb.block k (h.lt k h1) λh2=>h1 (hS k h2)
theorem Mgr.bel (h:Mgr ρ w b s) (hb:Bel w w'):Mgr ρ w' b s:=let ⟨vs,mb,g,m⟩:=h;⟨vs,mb,g,m.bel hb⟩
theorem Mgr.out {S:Nat->Prop} (h:Mgr ρ w b s) (hb:Out S w w') (hS:∀ k,S k->ρ k=none):Mgr ρ w' b s:=let ⟨vs,mb,g,m⟩:=h;⟨vs,mb,g,m.out hb hS⟩
theorem Mgr.lt (h:Mgr ρ w b s):∀ k,ρ k≠none->k<w.heap.size:=let ⟨_,_,_,m⟩:=h;m.lt
end
theorem zLK:zFB zA ZT (zU .i64):=zFB.int (q:=.i64) (by kernel_rfl)
theorem zJj (x y:Int) (h:zU .i64 x=zU .i64 y):x=y:=by injection h
theorem zH9 (x y:ByteArray) (h:za x=za y):x=y:=by injection h
theorem zJ3 (x:Option Addr) {w:World} {o1 o2:Operand} {k:Bool->World->Prop} (H:k x.isNone w):opE zA xh (do eqGuard .eql zGt o1 o2 (.pointer x) (.pointer none);binOp .eql zGt (.pointer x) (.pointer none)) w k:=by
 refine ⟨_,w,?_,H⟩
 cases x<;>kernel_rfl
theorem zP2 (x:Option Addr) {w:World} {o1 o2:Operand} {k:Bool->World->Prop} (H:k x.isNone w):opE zA xh (do eqGuard .eql zE8 o1 o2 (.pointer x) (.pointer none);binOp .eql zE8 (.pointer x) (.pointer none)) w k:=by
 refine ⟨_,w,?_,H⟩
 cases x<;>kernel_rfl
end Go.Proofs.YtealcoghiaeiiaaGreat.VG
set_option linter.unusedVariables false
namespace Go.Proofs.YtealcoghiaeiiaaGreat.VG
open Go.VB Go.Proofs Go.RowKit
abbrev ptrA (x:Nat):Option Addr:=some ⟨x,0,none⟩
theorem zRj {κ ν:Type} {ek:κ->Value} {ev:ν->Value} {P:Program} {kt et mt:TypeId} {b:Nat} {f:κ->Option ν} {C:World->Prop} (h:∀ w,C w->Zk ek ev w b f) (K:zFB P kt ek) (hm:P.underlying mt=some (.map kt et)) {z:ν} (hz:∀ w,(zeroValue et).run P w=.ok (ev z) w) (x:κ) {k:ν->Prop} (H:k ((f x).getD z)):
  opC C P ev (Instr.lookup mt (.map (some b)) (ek x) false) k:=⟨_,λw' hb=>(h w' hb).run_look K hm hz x,H⟩
section
variable {ρ:Own} {w:World} {b:Nat} {s:St} {vs:Sl} {mb:Nat} {g:Int->Gh}
theorem zKf (h:zCQ ρ w b s vs mb g) (n:Int) {k:Option Addr->Int->World->Prop} (H0:s.tx n=none->k none 11 w) (H1:∀ t,s.tx n=some t->k (ptrA (g n).tb) 0 w):
  Cl zA zIo [.pointer (ptrA b),.int .i64 n].toArray w (λe w'=>∃ (r0:Option Addr) (r1:Int),e=.returned (.tuple [.pointer r0,.int .i64 r1].toArray)/\k r0 r1 w'):=by
 refine zIt (ptrA b) n w k ?_
 unfold zFe
 refine zJ3 _ ⟨λh=>(nomatch h),λ_=>⟨trivial,?_⟩⟩
 refine yJ zBS zBO h.row.at (some mb) rfl ?_
 refine zQR h.mp zLK zBQ zLe n ?_
 cases ht:s.tx n with
 |none=>exact zP2 _ ⟨λ_=>H0 ht,λh=>(nomatch h)⟩
 |some t=>exact zP2 _ ⟨λh=>(nomatch h),λ_=>H1 t ht⟩
theorem zQS (h:zCQ ρ w b s vs mb g) {k:Int->World->Prop} (H:k s.now w):Cl zA zIS [.pointer (ptrA b)].toArray w (λe w'=>∃ r0:Int,e=.returned (.int .u64 r0)/\k r0 w'):=by
 refine zIZ (ptrA b) w k ?_
 unfold zFJ
 refine zJ3 _ ⟨λh=>(nomatch h),λ_=>⟨trivial,?_⟩⟩
 exact yJ ZO yF h.row.at s.now rfl H
end
def zGq (s:St):Tx:=⟨s.now,[],λ_=>none⟩
open Classical in
noncomputable def zGS (s:St):St:={s with given:=s.given+1,tx:=upd s.tx (s.given+1) (zGq s)}
def zKe (ρ:Own) (n:Int) (tb wb:Nat):Own:=λk=>if k=tb then some (.tb n) else if k=wb then some (.wb n) else ρ k
theorem zJz {ρ:Own} {w:World} {b:Nat} {s:St} (h:Mgr ρ w b s) (hg0:0<=s.given) (hg:s.given<4611686018427387904) (hfree:s.tx (s.given+1)=none) {k:Int->Int->World->Prop}
  (H0:∀ ks,Doms s.tx ks->16<=ks.length->k 0 3 w)
  (H1:∀ ks ρ' w',Doms s.tx ks->ks.length<16->Mgr ρ' w' b (zGS s)->Ext ρ w ρ' w'->k (s.given+1) 0 w'):
  Cl zA zFp [.pointer (ptrA b)].toArray w (λe w'=>∃ (r0 r1:Int),e=.returned (.tuple [.int .i64 r0,.int .i64 r1].toArray)/\k r0 r1 w'):=by
 obtain ⟨vs,mb,g,m⟩:=h
 refine zHo (ptrA b) w k ?_
 unfold zEV
 refine zJ3 _ ⟨λh=>(nomatch h),λ_=>⟨trivial,?_⟩⟩
 refine yJ zBS zBO m.row.at (some mb) rfl ?_
 refine zMP m.mp zJj zBQ λks hks=>?_
 have hks':Doms s.tx ks:=⟨hks.1,λn=>by
  rw [hks.2]
  show (∃ v,(s.tx n).map (λ_=>(some ⟨(g n).tb,0,none⟩:Option Addr))=some v)↔_
  constructor
  ·rintro ⟨v,hv⟩
   cases ht:s.tx n with
   |none=>rw [ht] at hv;cases hv
   |some t=>exact ⟨t,rfl⟩
  ·rintro ⟨t,ht⟩;rw [ht];exact ⟨_,rfl⟩⟩
 refine ⟨λhc=>H0 ks hks' (by omega),λhc=>⟨trivial,?_⟩⟩
 refine yJ zBq zAN m.row.at s.given rfl ⟨trivial,?_⟩
 rw [wr64 (by omega) (by omega)]
 refine ⟨_,w,zBq _ _,?_⟩
 refine zH1 zAN m.row rfl (by simp) rfl λw1 hR g1=>?_
 replace hR:Row w1 b [Sl.v vs,.int .u64 s.low,.int .u64 s.now,.int .i64 (s.given+1),.map (some mb)] Zf:=hR
 have hb1:=Ext.grown g1 m.rmg
 have m1:w.heap.size<=w1.heap.size:=g1.size
 refine ⟨λW=>Row W b [Sl.v vs,.int .u64 s.low,.int .u64 s.now,.int .i64 (s.given+1),.map (some mb)] Zf,λw2 b2=>⟨hR.bel b2,trivial,?_⟩⟩
 refine zFf zBS ⟨trivial,?_⟩
 refine zFf zBq ⟨trivial,?_⟩
 refine zFf ZO ?_
 refine zC5 zBO (some mb) (λW hW=>hW.at.fld rfl) ?_
 refine zC5 zAN (s.given+1) (λW hW=>hW.at.fld rfl) ?_
 refine zC5 yF s.now (λW hW=>hW.at.fld rfl) ?_
 refine zMm (ek:=za) (ev:=zI.v) λhM=>?_
 have b3:=Bel.alloc w2 (.map #[] 0)
 generalize hw3:w2.alloc (.map #[] 0)=w3 at hM b3 ⊢
 have s3:w3.heap.size=w2.heap.size+1:=by rw [← hw3];exact size_alloc' _ _
 refine ⟨(hR.bel b2).bel b3,?_⟩
 refine ⟨⟨s.now,Sl.none,some w2.heap.size⟩,λW _=>by kernel_rfl,?_⟩
 refine zKG (cs:=[.int .u64 s.now,Sl.v Sl.none,.map (some w2.heap.size)]) rfl ?_
 have hT:Row (w3.alloc (.cells [.int .u64 s.now,Sl.v Sl.none,.map (some w2.heap.size)].toArray zA1)) w3.heap.size [.int .u64 s.now,Sl.v Sl.none,.map (some w2.heap.size)] zA1:=Row.new _ _ _
 have b4:=Bel.alloc w3 (.cells [.int .u64 s.now,Sl.v Sl.none,.map (some w2.heap.size)].toArray zA1)
 generalize hw4:w3.alloc (.cells [.int .u64 s.now,Sl.v Sl.none,.map (some w2.heap.size)].toArray zA1)=w4 at hT b4 ⊢
 have s4:w4.heap.size=w3.heap.size+1:=by rw [← hw4];exact size_alloc' _ _
 have hR4:=((hR.bel b2).bel b3).bel b4
 refine ⟨hR4,?_⟩
 have b24:=(b2.trans b3).trans b4
 have hlt:=m.lt
 have s2:=b2.le
 have hmne:mb≠b:=λe=>by have:=m.rom;rw [e,m.rmg] at this;cases this
 have hmp4:Zk (zU .i64) zC w4 mb (λn=>(s.tx n).map λ_=>some ⟨(g n).tb,0,none⟩):=(m.mp.grown g1 (by simpa using hmne.symm)).bel b24
 refine zNy hmp4 zLK zBQ (s.given+1) (ptrA w3.heap.size) λw5 hM5 g5=>?_
 have hR5:=hR4.grown g5 (by simpa using hmne)
 refine ⟨hR5,trivial,?_⟩
 have hE:Ext ρ w ρ w5:=(hb1.trans (Ext.bel b24)).trans (Ext.grown g5 m.rom)
 have s5:=g5.size
 have hlow:∀ k,ρ k≠none->k≠w3.heap.size/\k≠w2.heap.size:=λk hk=>by have:=hlt k hk;omega
 have hρ:∀ k,k<w.heap.size->zKe ρ (s.given+1) w3.heap.size w2.heap.size k=ρ k:=λk hk=>by
  unfold zKe;rw [if_neg (by omega),if_neg (by omega)]
 have hkeep:∀ k r,ρ k=some r->r≠.mg->r≠.om->w5.heap[k]?=w.heap[k]?:=λk r hk h1 h2=>by
  have hkl:=hlt k (by rw [hk];simp)
  have e1:k≠b:=λe=>by rw [e,m.rmg] at hk;cases hk;exact h1 rfl
  have e2:k≠mb:=λe=>by rw [e,m.rom] at hk;cases hk;exact h2 rfl
  rw [g5.block k (by have:=b24.le;omega) (by simpa using e2),b24.block k (by omega),g1.block k hkl (by simpa using e1)]
 refine yJ zBq zAN hR5.at (s.given+1) rfl ?_
 refine H1 ks (zKe ρ (s.given+1) w3.heap.size w2.heap.size) w5 hks' (by omega) ⟨vs,mb,λn=>if n=s.given+1 then ⟨w3.heap.size,w2.heap.size,Sl.none⟩ else g n,?_⟩ ⟨hE.out,hρ⟩
 exact {
  row:=hR5
  rmg:=(hρ b (hlt b (by rw [m.rmg];simp))).trans m.rmg
  vers:=m.vers.keep λk hk=>hkeep k .ve (m.rve k hk) (by simp) (by simp)
  rve:=λk hk=>(hρ k (hlt k (by rw [m.rve k hk];simp))).trans (m.rve k hk)
  mp:=by
   have:(λn=>((zGS s).tx n).map λ_=>(some ⟨(if n=s.given+1 then ⟨w3.heap.size,w2.heap.size,Sl.none⟩ else g n:Gh).tb,0,none⟩:Option Addr))=upd (λn=>(s.tx n).map λ_=>(some ⟨(g n).tb,0,none⟩:Option Addr)) (s.given+1) (ptrA w3.heap.size):=by
    funext n
    unfold zGS
    by_cases hn:n=s.given+1
    ·subst hn;simp [Yf]
    ·simp [yv _ _ hn,hn]
   rw [this];exact hM5
  rom:=(hρ mb (hlt mb (by rw [m.rom];simp))).trans m.rom
  tx:=λn t ht=>by
   unfold zGS at ht
   by_cases hn:n=s.given+1
   ·subst hn
    simp only [Yf] at ht
    cases ht
    simp only [if_true]
    have e3:w3.heap.size≠mb:=by have:=hlt mb (by rw [m.rom];simp);omega
    have e2:w2.heap.size≠mb:=by have:=hlt mb (by rw [m.rom];simp);omega
    exact {
     row:=hT.grown g5 (by simpa using e3.symm)
     rtb:=by simp [zKe]
     rd:=OwnS.nil _ _ _ _ _
     rrd:=λk hk=>by cases hk
     wr:=(hM.bel b4).grown g5 (by simpa using e2.symm)
     rwb:=by simp only [zKe];rw [if_neg (by omega),if_pos trivial]}
   ·simp only [yv _ _ hn] at ht
    simp only [if_neg hn]
    exact (m.tx n t ht).keep hlt hρ (λk hk=>hkeep k _ hk (by simp) (by simp)) (λk hk=>hkeep k _ hk (by simp) (by simp)) (λk hk=>hkeep k _ hk (by simp) (by simp))
  lt:=λk hk=>by
   unfold zKe at hk
   split at hk
   ·rename_i e;subst e;omega
   ·split at hk
    ·rename_i e;subst e;omega
    ·have:=hlt k hk;have:=b24.le;omega}
end Go.Proofs.YtealcoghiaeiiaaGreat.VG
set_option linter.unusedVariables false
namespace Go.Proofs.YtealcoghiaeiiaaGreat.VG
open Go.VB Go.Proofs Go.RowKit
theorem zLb {κ ν:Type} {ek:κ->Value} {ev:ν->Value} {P:Program} {kt et mt:TypeId} {b:Nat} {f:κ->Option ν} {C:World->Prop} (h:∀ w,C w->Zk ek ev w b f) (K:zFB P kt ek) (hm:P.underlying mt=some (.map kt et)) {z:ν} (hz:∀ w,(zeroValue et).run P w=.ok (ev z) w) (x:κ) {k:ν × Bool->Prop} (H:k ((f x).getD z,(f x).isSome)):
  opC C P (λp:ν × Bool=>.tuple [ev p.1,.bool p.2].toArray) (Instr.lookup mt (.map (some b)) (ek x) true) k:=⟨_,λw' hb=>(h w' hb).run_lookOk K hm hz x,H⟩
theorem zO3 {κ ν:Type} {ek:κ->Value} {ev:ν->Value} {P:Program} {kt et mt:TypeId} {b:Nat} {f:κ->Option ν} {w:World} (h:Zk ek ev w b f) (K:zFB P kt ek) (hm:P.underlying mt=some (.map kt et)) {z:ν} (hz:∀ w,(zeroValue et).run P w=.ok (ev z) w) (x:κ) {k:ν × Bool->World->Prop} (H:k ((f x).getD z,(f x).isSome) w):
  opE P (λp:ν × Bool=>.tuple [ev p.1,.bool p.2].toArray) (Instr.lookup mt (.map (some b)) (ek x) true) w k:=⟨_,w,h.run_lookOk K hm hz x,H⟩
abbrev zLm:Wri:=⟨noB,noB,false⟩
open Classical in
noncomputable def setTx (s:St) (n:Int) (t:Tx):St:={s with tx:=upd s.tx n t}
open Classical in
theorem zCQ.setTx {ρ ρ':Own} {w w':World} {b:Nat} {s:St} {vs:Sl} {mb:Nat} {g:Int->Gh} (h:zCQ ρ w b s vs mb g) {n:Int} {t t':Tx} (ht:s.tx n=some t) {g':Gh} (hg:g'.tb=(g n).tb)
  (hρ:∀ k,k<w.heap.size->ρ' k=ρ k) (hlt:∀ k,ρ' k≠none->k<w'.heap.size) (hk:∀ k r,ρ k=some r->r≠.tb n->r≠.wb n->r≠.rb n->w'.heap[k]?=w.heap[k]?) (ht':TxAt ρ' w' n t' g'):
  zCQ ρ' w' b (setTx s n t') vs mb (λm=>if m=n then g' else g m) where
 row:=h.row.keep (hk b _ h.rmg (by simp) (by simp) (by simp))
 rmg:=(hρ b (h.lt b (by rw [h.rmg];simp))).trans h.rmg
 vers:=h.vers.keep λk h1=>hk k _ (h.rve k h1) (by simp) (by simp) (by simp)
 rve k h1:=(hρ k (h.lt k (by rw [h.rve k h1];simp))).trans (h.rve k h1)
 mp:=by
  have:(λm=>((VG.setTx s n t').tx m).map λ_=>(some ⟨(if m=n then g' else g m:Gh).tb,0,none⟩:Option Addr))=(λm=>(s.tx m).map λ_=>(some ⟨(g m).tb,0,none⟩:Option Addr)):=by
   funext m
   unfold VG.setTx
   by_cases hm:m=n
   ·subst hm;simp [Yf,ht,hg]
   ·simp [yv _ _ hm,hm]
  rw [this]
  exact h.mp.keep (hk mb _ h.rom (by simp) (by simp) (by simp))
 rom:=(hρ mb (h.lt mb (by rw [h.rom];simp))).trans h.rom
 tx m u hu:=by
  by_cases hm:m=n
  ·subst hm
   simp only [VG.setTx,Yf] at hu;cases hu
   simp only [if_true];exact ht'
  ·simp only [VG.setTx,yv _ _ hm] at hu
   simp only [if_neg hm]
   exact (h.tx m u hu).keep h.lt hρ (λk h1=>hk k _ h1 (by simp [hm]) (by simp) (by simp)) (λk h1=>hk k _ h1 (by simp) (by simp [hm]) (by simp)) (λk h1=>hk k _ h1 (by simp) (by simp) (by simp [hm]))
 lt:=hlt
noncomputable def putW (t:Tx) (x:Wri):Tx:={t with wr:=upd t.wr x.Key x}
theorem zJr {ρ:Own} {w:World} {b:Nat} {s:St} (h:Mgr ρ w b s) (n:Int) (x:Wri) {k:Int->World->Prop}
  (H0:s.tx n=none->∀ w',Bel w w'->k 11 w')
  (H1:∀ t,s.tx n=some t->zBI x->∀ w',Bel w w'->k 4 w')
  (H2:∀ t ks,s.tx n=some t->¬ zBI x->t.wr x.Key=none->Doms t.wr ks->256<=ks.length->∀ w',Bel w w'->k 3 w')
  (H3:∀ t w',s.tx n=some t->¬ zBI x->(t.wr x.Key=none->∃ ks,Doms t.wr ks/\ks.length<256)->Mgr ρ w' b (setTx s n (putW t x))->Ext ρ w ρ w'->k 0 w'):
  Cl zA zB9 [.pointer (ptrA b),.int .i64 n,zI.v x].toArray w (λe w'=>∃ r0:Int,e=.returned (.int .i64 r0)/\k r0 w'):=by
 obtain ⟨vs,mb,g,m⟩:=h
 refine zHk (ptrA b) n x w k ?_
 unfold zEO
 refine zAb (cs:=x.cells) rfl λB w1 b1 hX hB=>?_
 refine zKf (m.bel b1) n (λht=>⟨λ_=>H0 ht w1 b1,λh=>absurd (by decide) h⟩) λt ht=>⟨λh=>absurd rfl h,λ_=>?_⟩
 have mt:=m.tx n t ht
 have hrow:=mt.row.bel b1
 have hwr:=mt.wr.bel b1
 refine ⟨Bel w1,λu bu=>⟨bu,trivial,?_⟩⟩
 refine zFf Z8 ?_
 refine zFf Yt ?_
 refine zC5 Qf (some (g n).wb) (λW hW=>(hrow.bel hW).at.fld rfl) ?_
 refine zC5 zp x.Key (λW hW=>(hX.bel hW).at.fld rfl) ?_
 refine zLb (z:=zLm) (λW hW=>hwr.bel hW) zH5 YP zHE x.Key ?_
 refine zEv zBk λC w2 b2 hZ hC=>?_
 refine ⟨bu.trans b2,?_⟩
 refine zHZ YO hZ rfl rfl rfl λw3 hZ3 g3=>?_
 have b13:Bel w1 w3:=(bu.trans b2).grown g3 λr hr=>by cases hr;have:=bu.le;omega
 refine ⟨b13,?_⟩
 have hX3:=hX.bel b13
 refine yJ Yt zp hX3.at x.Key rfl ?_
 have b03:=b1.trans b13
 have J3:∀ W (c:Bool),Bel w W->Row W B x.cells Zs->¬ zBI x->(c=true->∃ ks,t.wr x.Key=none/\Doms t.wr ks/\256<=ks.length)->(c=false->t.wr x.Key=none->∃ ks,Doms t.wr ks/\ks.length<256)->Zr k (ptrA B) (ptrA (g n).tb) c W:=by
  intro W c hb hXW hl hc1 hc0
  unfold Zr
  refine ⟨λhc=>?_,λhc=>?_⟩
  ·obtain ⟨ks,h1,h2,h3⟩:=hc1 hc
   exact H2 t ks ht hl h1 h2 h3 W hb
  ·refine ⟨λW'=>Row W' (g n).tb [.int .u64 t.began,Sl.v (g n).rs,.map (some (g n).wb)] zA1/\Row W' B x.cells Zs,λu bu2=>?_⟩
   have hbu:=hb.trans bu2
   have hT:=mt.row.bel hbu
   refine ⟨⟨hT,hXW.bel bu2⟩,trivial,?_⟩
   refine zFf Z8 ?_
   refine zFf Yt ?_
   refine zC5 Qf (some (g n).wb) (λW hW=>hW.1.at.fld rfl) ?_
   refine zC5 zp x.Key (λW hW=>hW.2.at.fld rfl) ?_
   refine zKh YO x rfl (λW hW=>hW.2.at) rfl ?_
   refine zNy (mt.wr.bel hbu) zH5 YP x.Key x λw5 hM5 g5=>?_
   have htw:(g n).tb≠(g n).wb:=λe=>by have:=mt.rtb;rw [e,mt.rwb] at this;cases this
   have hltw:=m.lt (g n).wb (by rw [mt.rwb];simp)
   have hBw:B≠(g n).wb:=by omega
   have hT5:=hT.grown g5 (by simpa using htw.symm)
   refine ⟨⟨hT5,(hXW.bel bu2).grown g5 (by simpa using hBw.symm)⟩,?_⟩
   have hE:=(Ext.bel hbu).trans (Ext.grown g5 mt.rwb)
   have hkeep:∀ k,ρ k≠none->k≠(g n).wb->w5.heap[k]?=w.heap[k]?:=λk hk hne=>by
    have:=m.lt k hk
    rw [g5.block k (by have:=hbu.le;omega) (by simpa using hne),hbu.block k this]
   refine H3 t w5 ht hl (hc0 hc) ⟨vs,mb,_,m.setTx ht (g':=g n) rfl (λ_ _=>rfl) (λk hk=>by have:=m.lt k hk;have:=hE.out.size;omega) (λk r hk h1 h2 h3=>hkeep k (by rw [hk];simp) λe=>?_) ?_⟩ hE
   ·rw [e,mt.rwb] at hk;cases hk;exact h2 rfl
   ·exact {
     row:=hT5
     rtb:=mt.rtb
     rd:=mt.rd.keep λk hk=>hkeep k (by rw [mt.rrd k hk];simp) λe=>by have:=mt.rrd k hk;rw [e,mt.rwb] at this;cases this
     rrd:=mt.rrd
     wr:=hM5
     rwb:=mt.rwb}
 have J2:∀ W (c:Bool),Bel w W->Row W B x.cells Zs->(c=true↔zBI x)->Zv k (ptrA B) (ptrA (g n).tb) ((t.wr x.Key).getD zLm,(t.wr x.Key).isSome) c W:=by
  intro W c hb hXW hc
  unfold Zv
  refine ⟨λh1=>H1 t ht (hc.1 h1) W hb,λh1=>?_⟩
  have hl:¬ zBI x:=λh2=>by rw [hc.2 h2] at h1;cases h1
  refine ⟨λh2=>⟨trivial,?_⟩,λh2=>?_⟩
  ·have hno:t.wr x.Key=none:=by
    cases hx:t.wr x.Key with
    |none=>rfl
    |some y=>rw [hx] at h2;simp at h2
   refine yJ Z8 Qf (mt.row.bel hb).at (some (g n).wb) rfl ?_
   refine zMP (mt.wr.bel hb) zH9 YP λks hks=>?_
   refine J3 W _ hb hXW hl (λh3=>⟨ks,hno,hks,by have:=of_decide_eq_true h3;omega⟩) λh3 _=>⟨ks,hks,by have:=of_decide_eq_false h3;omega⟩
  ·refine J3 W false hb hXW hl (λh=>(nomatch h)) λ_ hno=>?_
   rw [hno] at h2;simp at h2
 refine ⟨λhc=>J2 w3 true b03 hX3 ⟨λ_=>.inl (by omega),λ_=>rfl⟩,λhc=>?_⟩
 refine yJ zCH zp hX3.at x.Val rfl ?_
 refine J2 w3 _ b03 hX3 ?_
 unfold zBI
 simp only [decide_eq_true_eq]
 omega
section
variable {ρ:Own} {w:World} {b:Nat} {s:St}
theorem zMv (n:Int) (key val:ByteArray) {p:Option Addr} {k:Int->World->Prop} (H:Cl zA zB9 [.pointer p,.int .i64 n,zI.v ⟨key,val,false⟩].toArray w (λe w'=>∃ r0:Int,e=.returned (.int .i64 r0)/\k r0 w')):
  Cl zA zGO [.pointer p,.int .i64 n,.string key,.string val].toArray w (λe w'=>∃ r0:Int,e=.returned (.int .i64 r0)/\k r0 w'):=by
 refine zIV p n key val w k ?_
 unfold zFQ
 exact ⟨⟨key,val,false⟩,w,by kernel_rfl,H⟩
theorem zNl (n:Int) (key:ByteArray) {p:Option Addr} {k:Int->World->Prop} (H:Cl zA zB9 [.pointer p,.int .i64 n,zI.v ⟨key,noB,true⟩].toArray w (λe w'=>∃ r0:Int,e=.returned (.int .i64 r0)/\k r0 w')):
  Cl zA zFV [.pointer p,.int .i64 n,.string key].toArray w (λe w'=>∃ r0:Int,e=.returned (.int .i64 r0)/\k r0 w'):=by
 refine zHT p n key w k ?_
 unfold zDv
 exact ⟨⟨key,noB,true⟩,w,by kernel_rfl,H⟩
end
end Go.Proofs.YtealcoghiaeiiaaGreat.VG
set_option linter.unusedVariables false
namespace Go.Proofs.YtealcoghiaeiiaaGreat.VG
open Go.VB Go.Proofs Go.RowKit
def addR (t:Tx) (x:Spn):Tx:={t with reads:=t.reads++[x]}
theorem zNX {ρ:Own} {w:World} {b:Nat} {s:St} {vs:Sl} {mb:Nat} {g:Int->Gh} (m:zCQ ρ w b s vs mb g) {n:Int} {t:Tx} (ht:s.tx n=some t) (hroom:t.reads.length<1000) (x:Spn) {k:World->Prop}
  (H:∀ ρ' w' g',(g' n).tb=(g n).tb->(g' n).wb=(g n).wb->zCQ ρ' w' b (setTx s n (addR t x)) vs mb g'->Ext ρ w ρ' w'->k w'):
  opE zA Sl.v (zr zEj 1 [(0,z7.v x)].toArray) w (λy w=>opE zA Sl.v (Builtin.append_ #[zEj,zEj] zEj [Sl.v (g n).rs,Sl.v y].toArray) w (λz w=>
   QU (.pointer (ptrA (g n).tb))/\opE zA zC (zN zA1 (.pointer (ptrA (g n).tb)) 1) w (λq w=>opU zA (zJ zEj (.pointer q) (Sl.v z)) w k))):=by
 have mt:=m.tx n t ht
 refine zNE mt.rd (λ_=>rfl) (λ_=>rfl) (by decide) zGE zHL rfl (by decide) (zHl x) (Nat.zero_le _) (by omega) λz w1 hO g1 hq=>⟨trivial,?_⟩
 have hrow1:Row w1 (g n).tb [.int .u64 t.began,Sl.v (g n).rs,.map (some (g n).wb)] zA1:=mt.row.grown g1 λe=>by
  have:=mt.rrd _ e;rw [mt.rtb] at this;cases this
 refine ⟨_,w1,zBG _ _,?_⟩
 refine zH1 zBn hrow1 (by cases z with|mk a l c=>cases a<;>rfl) (by simp) (by cases z with|mk a l c=>cases a<;>rfl) λw2 hR g2=>?_
 replace hR:Row w2 (g n).tb [.int .u64 t.began,Sl.v z,.map (some (g n).wb)] zA1:=hR
 have hzt:(Sl.v z).ownBlock≠some (g n).tb:=OwnS.ne_row hO hrow1 (by decide)
 have hO2:=hO.kept g2 (.inr hzt)
 let ρ':Own:=λk=>if (Sl.v z).ownBlock=some k then some (.rb n) else ρ k
 have hρ:∀ k,k<w.heap.size->ρ' k=ρ k:=λk hk=>by
  show (if (Sl.v z).ownBlock=some k then _ else _)=_
  split
  ·rename_i e
   rcases hq k e with h1|h1
   ·exact (mt.rrd k h1).symm
   ·omega
  ·rfl
 have hs1:=g1.size
 have hs2:=g2.size
 have hkeep:∀ k r,ρ k=some r->r≠.tb n->r≠.rb n->w2.heap[k]?=w.heap[k]?:=λk r hk h1 h2=>by
  have hkl:=m.lt k (by rw [hk];simp)
  rw [g2.block k (by omega) λe=>by injection e with e;rw [e,mt.rtb] at hk;cases hk;exact h1 rfl,g1.block k hkl λe=>by
   have:=mt.rrd k e.symm;rw [hk] at this;cases this;exact h2 rfl]
 have hE:Ext ρ w ρ' w2:=⟨(Out.row (S:=λk=>ρ k≠none) g1 λk hk=>.inl (by show ρ k≠none;rw [mt.rrd k hk];simp)).trans (Out.row (S:=λk=>ρ k≠none) g2 λk hk=>by cases hk;exact .inl (by show ρ _≠none;rw [mt.rtb];simp)) λ_ _ h=>h,hρ⟩
 refine H ρ' w2 (λm=>if m=n then ⟨(g n).tb,(g n).wb,z⟩ else g m) (by simp) (by simp) (m.setTx ht rfl hρ (λk hk=>?_) (λk r hk h1 h2 h3=>hkeep k r hk h1 h3) ?_) hE
 ·by_cases e:(Sl.v z).ownBlock=some k
  ·exact hO2.lt e
  ·have:ρ k≠none:=by
    have h1:(if (Sl.v z).ownBlock=some k then some (Role.rb n) else ρ k)≠none:=hk
    rw [if_neg e] at h1;exact h1
   have:=m.lt k this;omega
 ·exact {
   row:=hR
   rtb:=(hρ _ (m.lt _ (by rw [mt.rtb];simp))).trans mt.rtb
   rd:=hO2
   rrd:=λk hk=>by show (if (Sl.v z).ownBlock=some k then _ else _)=_;rw [if_pos hk]
   wr:=mt.wr.keep (hkeep _ _ mt.rwb (by simp) (by simp))
   rwb:=(hρ _ (m.lt _ (by rw [mt.rwb];simp))).trans mt.rwb}
noncomputable def tget (s:St) (t:Tx) (key:ByteArray):ByteArray × Bool × Int:=match t.wr key with
 |some x=>(x.Val,!x.Gone,0)
 |none=>vget s.l s.low key t.began
abbrev zIl (key:ByteArray):Spn:=⟨key,noB,true⟩
theorem zMq {ρ:Own} {w:World} {b:Nat} {s:St} (h:Mgr ρ w b s) (n:Int) (key:ByteArray) {k:ByteArray->Bool->Int->World->Prop}
  (H0:s.tx n=none->k noB false 11 w)
  (H1:∀ t,s.tx n=some t->256<key.size->k noB false 4 w)
  (H2:∀ t,s.tx n=some t->¬ 256<key.size->256<=t.reads.length->k noB false 3 w)
  (H3:∀ t ρ' w',s.tx n=some t->¬ 256<key.size->t.reads.length<256->Mgr ρ' w' b (setTx s n (addR t (zIl key)))->Ext ρ w ρ' w'->k (tget s t key).1 (tget s t key).2.1 (tget s t key).2.2 w'):
  Cl zA zGF [.pointer (ptrA b),.int .i64 n,.string key].toArray w (λe w'=>∃ (r0:ByteArray) (r1:Bool) (r2:Int),e=.returned (.tuple [.string r0,.bool r1,.int .i64 r2].toArray)/\k r0 r1 r2 w'):=by
 obtain ⟨vs,mb,g,m⟩:=h
 refine zIX (ptrA b) n key w k ?_
 unfold zFN
 refine zKf m n (λht=>⟨λ_=>H0 ht,λh=>absurd (by decide) h⟩) λt ht=>⟨λh=>absurd rfl h,λ_=>⟨λhl=>H1 t ht (by omega),λhl=>⟨trivial,?_⟩⟩⟩
 have mt:=m.tx n t ht
 have hrl:=mt.rd.len
 refine yJ zBG zBn mt.row.at (g n).rs rfl ?_
 refine ⟨λhc=>H2 t ht (by omega) (by omega),λhc=>⟨trivial,?_⟩⟩
 refine yJ zBG zBn mt.row.at (g n).rs rfl ?_
 refine ⟨zIl key,w,by kernel_rfl,?_⟩
 refine zNX m ht (by omega) (zIl key) λρ' w1 g' eg ew m1 hE=>⟨trivial,?_⟩
 have ht1:(setTx s n (addR t (zIl key))).tx n=some (addR t (zIl key)):=by simp [setTx,Yf]
 have mt1:=m1.tx n _ ht1
 have fin:∀ W,Bel w1 W->k (tget s t key).1 (tget s t key).2.1 (tget s t key).2.2 W:=λW hW=>H3 t ρ' W ht (by omega) (by omega) ⟨vs,mb,g',m1.bel hW⟩ (hE.trans (Ext.bel hW))
 have hT1:Row w1 (g n).tb [.int .u64 t.began,Sl.v (g' n).rs,.map (some (g n).wb)] zA1:=by have:=mt1.row;rw [eg,ew] at this;exact this
 have hM1:Zk za zI.v w1 (g n).wb t.wr:=by have:=mt1.wr;rw [ew] at this;exact this
 refine yJ Z8 Qf hT1.at (some (g n).wb) rfl ?_
 refine zO3 (z:=zLm) hM1 zH5 YP zHE key ?_
 refine zCs zBk rfl YO (cs:=((t.wr key).getD zLm).cells) rfl rfl rfl λC w2 b2 hX _=>?_
 refine ⟨λhi=>?_,λhi=>⟨trivial,?_⟩⟩
 ·obtain ⟨x,hx⟩:=Option.isSome_iff_exists.1 hi
  have hv:tget s t key=(x.Val,!x.Gone,0):=by unfold tget;rw [hx]
  rw [hx] at hX
  refine zGL zCH zp hX.at x.Val rfl ?_
  refine zGL zCm zC1 hX.at x.Gone rfl ?_
  intro w3 b3
  have:=fin w3 (b2.trans b3)
  rw [hv] at this;exact this
 ·have hno:t.wr key=none:=by
   cases hx:t.wr key with
   |none=>rfl
   |some y=>rw [hx] at hi;simp at hi
  have hv:tget s t key=vget s.l s.low key t.began:=by unfold tget;rw [hno]
  have m2:=m1.bel b2
  refine ⟨_,λW hW=>xV _ _,?_⟩
  refine zHW z6 (cs:=[Sl.v vs,.int .u64 s.low]) ⟨vs,s.low⟩ rfl (λj v hj=>by
   have h1:=m2.row.at
   rw [zF8]
   refine h1 (0+j) v ?_
   match j,hj with
   |0,hj=>exact hj
   |1,hj=>exact hj) rfl ⟨trivial,?_⟩
  refine zGL zD7 yF (hT1.bel b2).at t.began rfl ?_
  refine ⟨(vget s.l s.low key t.began).1,(vget s.l s.low key t.began).2.1,(vget s.l s.low key t.began).2.2,λW hW=>?_,?_⟩
  ·refine (zPP (x0:=⟨vs,s.low⟩) (m2.vers.bel hW) key t.began (k:=λa c d w'=>a=(vget s.l s.low key t.began).1/\c=(vget s.l s.low key t.began).2.1/\d=(vget s.l s.low key t.began).2.2/\Bel W w') λw' hb=>⟨rfl,rfl,rfl,hb⟩).mono λe w' ⟨a,c,d,he,h1,h2,h3,h4⟩=>?_
   subst h1;subst h2;subst h3
   exact ⟨he,h4⟩
  ·intro w3 b3
   have:=fin w3 (b2.trans b3)
   rw [hv] at this;exact this
end Go.Proofs.YtealcoghiaeiiaaGreat.VG
set_option linter.unusedVariables false
namespace Go.Proofs.YtealcoghiaeiiaaGreat.VG
open Go.VB Go.Proofs Go.RowKit
theorem zFr {α:Type}:∀ {l m:List α},l.Nodup->(∀ x∈l,x∈m)->l.length<=m.length:=by
 intro l m hl h
 classical
 induction l generalizing m with
 |nil=>simp
 |cons a l ih=>
  obtain ⟨h1,h2⟩:=List.nodup_cons.1 hl
  have ha:a∈m:=h a (by simp)
  have:=ih (m:=m.erase a) h2 λx hx=>(List.mem_erase_of_ne (λe=>h1 (by rw [← e];exact hx))).2 (h x (by simp [hx]))
  rw [List.length_erase_of_mem ha] at this
  have:0<m.length:=List.length_pos_of_mem ha
  simp only [List.length_cons];omega
noncomputable def delTx (s:St) (n:Int):St:={s with tx:=del s.tx n}
structure zGd (s:St) (lo:Int):Prop where
 now:lo<=s.now
 all:∀ n t,s.tx n=some t->lo<=t.began
 hit:lo=s.now∨∃ n t,s.tx n=some t/\lo=t.began
theorem zGd.le {s:St} {a c:Int} (h:zGd s a) (k:zGd s c):a<=c:=by
 rcases k.hit with e|⟨n,t,h1,e⟩
 ·rw [e];exact h.now
 ·rw [e];exact h.all n t h1
theorem zGd.one {s:St} {a c:Int} (h:zGd s a) (k:zGd s c):a=c:=Int.le_antisymm (h.le k) (k.le h)
open Classical in
noncomputable def zJx (s:St):Int:=if h:∃ lo,zGd s lo then h.choose else 0
theorem zGd.eq {s:St} {lo:Int} (h:zGd s lo):lo=zJx s:=by
 have:∃ lo,zGd s lo:=⟨lo,h⟩
 unfold zJx;rw [dif_pos this]
 exact h.one this.choose_spec
noncomputable def zJ9 (s:St):St:=if (zDP s.l s.low (zJx s)).2.2=0 then {s with l:=(zDP s.l s.low (zJx s)).1,low:=(zDP s.l s.low (zJx s)).2.1} else s
noncomputable def zBR (s:St) (n:Int):St:=zJ9 (delTx s n)
section
variable {ρ:Own} {w w':World} {b:Nat} {s:St} {vs:Sl} {mb:Nat} {g:Int->Gh}
theorem zCQ.versAt (m:zCQ ρ w b s vs mb g):At w ((⟨b,0,none⟩:Addr).add 0) [Sl.v vs,.int .u64 s.low]:=λj v hj=>by
 have h1:=m.row.at
 rw [zF8]
 refine h1 (0+j) v ?_
 match j,hj with
 |0,hj=>exact hj
 |1,hj=>exact hj
theorem zCQ.delTx (m:zCQ ρ w b s vs mb g) (n:Int) (hM:Zk (zU .i64) zC w' mb (del (λn=>(s.tx n).map λ_=>(some ⟨(g n).tb,0,none⟩:Option Addr)) n)) (hg:w.grownBy w' (some mb)):zCQ ρ w' b (delTx s n) vs mb g:=by
 have hkeep:∀ k r,ρ k=some r->r≠.om->w'.heap[k]?=w.heap[k]?:=λk r hk h1=>hg.block k (m.lt k (by rw [hk];simp)) λe=>by injection e with e;rw [e,m.rom] at hk;cases hk;exact h1 rfl
 exact {
  row:=m.row.keep (hkeep _ _ m.rmg (by simp))
  rmg:=m.rmg
  vers:=m.vers.keep λk hk=>hkeep k _ (m.rve k hk) (by simp)
  rve:=m.rve
  mp:=by
   have:(λk=>((VG.delTx s n).tx k).map λ_=>(some ⟨(g k).tb,0,none⟩:Option Addr))=del (λn=>(s.tx n).map λ_=>(some ⟨(g n).tb,0,none⟩:Option Addr)) n:=by
    funext k
    unfold VG.delTx
    by_cases hk:k=n
    ·subst hk;simp [zFs]
    ·simp [zB2 _ hk]
   rw [this];exact hM
  rom:=m.rom
  tx:=λk t ht=>by
   have hk:k≠n:=λe=>by subst e;simp [VG.delTx,zFs] at ht
   have ht':s.tx k=some t:=by simpa [VG.delTx,zB2 _ hk] using ht
   exact (m.tx k t ht').keep m.lt (λ_ _=>rfl) (λj h1=>hkeep j _ h1 (by simp)) (λj h1=>hkeep j _ h1 (by simp)) (λj h1=>hkeep j _ h1 (by simp))
  lt:=λk hk=>QR (m.lt k hk) hg.size}
theorem zCQ.setVers (m:zCQ ρ w b s vs mb g) {r:Sl} {l:List Ver} {low now:Int} (hr:zEg w r l) (hnew:∀ k,(Sl.v r).ownBlock=some k->k<w.heap.size/\ρ k=none) (hg:w.grownBy w' (some b))
  (hR:Row w' b [Sl.v r,.int .u64 low,.int .u64 now,.int .i64 s.given,.map (some mb)] Zf):
  zCQ (λk=>if (Sl.v r).ownBlock=some k then some .ve else ρ k) w' b {s with l:=l,low:=low,now:=now} r mb g:=by
 have hsz:=hg.size
 have hold:∀ k r',ρ k=some r'->(if (Sl.v r).ownBlock=some k then some Role.ve else ρ k)=some r':=λk r' hk=>by
  split
  ·rename_i e;rw [(hnew k e).2] at hk;cases hk
  ·exact hk
 have hkeep:∀ k r,ρ k=some r->r≠.mg->w'.heap[k]?=w.heap[k]?:=λk r hk h1=>hg.block k (m.lt k (by rw [hk];simp)) λe=>by injection e with e;rw [e,m.rmg] at hk;cases hk;exact h1 rfl
 exact {
  row:=hR
  rmg:=hold _ _ m.rmg
  vers:=hr.keep λk hk=>hg.block k (hnew k hk).1 λe=>by injection e with e;have:=(hnew k hk).2;rw [e,m.rmg] at this;cases this
  rve:=λk hk=>if_pos hk
  mp:=m.mp.keep (hkeep _ _ m.rom (by simp))
  rom:=hold _ _ m.rom
  tx:=λk t ht=>by
   have h:=m.tx k t ht
   exact {
    row:=h.row.keep (hkeep _ _ h.rtb (by simp))
    rtb:=hold _ _ h.rtb
    rd:=h.rd.keep λj hj=>hkeep j _ (h.rrd j hj) (by simp)
    rrd:=λj hj=>hold _ _ (h.rrd j hj)
    wr:=h.wr.keep (hkeep _ _ h.rwb (by simp))
    rwb:=hold _ _ h.rwb}
  lt:=λk hk=>by
   by_cases e:(Sl.v r).ownBlock=some k
   ·have:=(hnew k e).1;omega
   ·have h1:(if (Sl.v r).ownBlock=some k then some Role.ve else ρ k)≠none:=hk
    rw [if_neg e] at h1
    have:=m.lt k h1;omega}
theorem zN7 (h:Mgr ρ w b s) (n:Int) {Ret:World->Prop} (H:∀ ρ' w',Mgr ρ' w' b (zBR s n)->Ext ρ w ρ' w'->Ret w'):zBH (ptrA b) n w Ret:=by
 obtain ⟨vs,mb,g,m⟩:=h
 unfold zBH
 refine ⟨trivial,?_⟩
 refine yJ zBS zBO m.row.at (some mb) rfl ?_
 refine zQ3 m.mp zLK zBQ n λw1 hM g1=>?_
 have m1:=m.delTx n hM g1
 have hE1:Ext ρ w ρ w1:=Ext.grown g1 m.rom
 unfold zBR at H
 generalize VG.delTx s n=s1 at m1 H
 refine ⟨trivial,?_⟩
 refine yJ ZO yF m1.row.at s1.now rfl ⟨trivial,?_⟩
 refine yJ zBS zBO m1.row.at (some mb) rfl ?_
 obtain ⟨es,c,mAt⟩:=m1.mp
 obtain ⟨dom,hdom,_⟩:=mAt.doms zJj
 clear mAt
 refine zOw m1.mp zBQ λw2 hi b2=>?_
 have hmb:mb<w1.heap.size:=m1.mp.lt
 generalize hR:w1.heap.size=R at hi hmb ⊢
 refine ⟨λx W=>∃ ks,zAx (zU .i64) zC W mb R (λn=>(s1.tx n).map λ_=>some ⟨(g n).tb,0,none⟩) ks/\Bel w1 W/\x<=s1.now/\(∀ k∈ks,∀ t,s1.tx k=some t->x<=t.began)/\(x=s1.now∨∃ k t,k∈ks/\s1.tx k=some t/\x=t.began),λ_ W=>dom.length - zG7 W R,⟨[],hi,b2,Int.le_refl _,by simp,.inl rfl⟩,?_⟩
 rintro x W ⟨ks,hi1,hb1,hx1,hx2,hx3⟩
 unfold Zo
 refine zMn hi1 (by omega) zJj (λhall=>?_) λy v W2 hy hn hi2 hg=>?_
 ·refine ⟨λ_=>⟨trivial,?_⟩,λk v e=>by cases e⟩
  have hlow:x=zJx s1:=zGd.eq ⟨hx1,λk t ht=>hx2 k (hall k (some ⟨(g k).tb,0,none⟩) (by rw [ht];rfl)) t ht,by
   rcases hx3 with h|⟨k,t,_,h1,h2⟩
   ·exact .inl h
   ·exact .inr ⟨k,t,h1,h2⟩⟩
  have mW:=m1.bel hb1
  have hEW:=hE1.trans (Ext.bel hb1)
  refine ⟨_,W,xV _ _,?_⟩
  refine zBb z6 (cs:=[Sl.v vs,.int .u64 s1.low]) ⟨vs,s1.low⟩ rfl mW.versAt rfl ?_
  refine zNh (x0:=⟨vs,s1.low⟩) mW.vers x λr W3 base h1 hO b3=>?_
  refine zCs zAW rfl z6 (cs:=[Sl.v r,.int .u64 (zDP s1.l s1.low x).2.1]) rfl (by cases r with|mk a l c=>cases a<;>rfl) rfl λC W4 b4 hX _=>?_
  have m4:=(mW.bel b3).bel b4
  have hE4:=hEW.trans (Ext.bel (b3.trans b4))
  unfold zJ9 at H
  rw [← hlow] at H
  refine ⟨λhz=>?_,λhz=>?_⟩
  ·rw [if_pos hz] at H
   refine zBb z6 (cs:=[Sl.v r,.int .u64 (zDP s1.l s1.low x).2.1]) ⟨r,(zDP s1.l s1.low x).2.1⟩ rfl hX.at rfl ⟨trivial,?_⟩
   refine ⟨_,W4,xV _ _,?_⟩
   refine zP5 z6 (vs:=[Sl.v r,.int .u64 (zDP s1.l s1.low x).2.1]) (off:=0) m4.row rfl (by simp) (by cases r with|mk a l c=>cases a<;>rfl) λW5 hR5 g5=>?_
   have hO4:=hO.bel b4
   have hnew:∀ k,(Sl.v r).ownBlock=some k->k<W4.heap.size/\ρ k=none:=λk hk=>by
    refine ⟨hO4.lt hk,?_⟩
    have h2:=hO.lo hk
    cases hρ:ρ k with
    |none=>rfl
    |some r0=>
     have h3:=m.lt k (by rw [hρ];simp)
     have h4:=hEW.out.size
     omega
   have m5:=m4.setVers (ZY.rd hO4) hnew g5 hR5
   refine H _ W5 ⟨_,_,_,m5⟩ ⟨hE4.out.trans (Out.row (S:=λk=>ρ k≠none) g5 λk hk=>by cases hk;exact .inl (by show ρ _≠none;rw [m.rmg];simp)) λ_ _ h=>h,λk hk=>if_neg λe=>?_⟩
   have h2:=hO.lo e
   have h4:=hEW.out.size
   omega
  ·rw [if_neg hz] at H
   exact H ρ W4 ⟨_,_,_,m4⟩ hE4
 ·refine ⟨λe=>(nomatch e),λk v' e=>?_⟩
  cases e
  have hb2:Bel w1 W2:=hb1.grown hg λr e=>by cases e;omega
  cases ht:s1.tx y with
  |none=>rw [ht] at hy;cases hy
  |some t=>
   have hv:v=ptrA (g y).tb:=by rw [ht] at hy;simpa using hy.symm
   subst hv
   have hcl:(ks++[y]).length<=dom.length:=zFr hi2.nd λz hz=>(hdom.2 z).2 (hi2.dom z hz)
   rw [yO,List.length_singleton] at hcl
   have hl1:=hi1.size
   have hl2:=hi2.size
   rw [yO,List.length_singleton] at hl2
   refine zHc hi2 hy zJj ⟨trivial,?_⟩
   refine yJ zD7 yF ((m1.bel hb2).tx y t ht).row.at t.began rfl ?_
   refine ⟨⟨ks++[y],hi2,hb2,?_,λk hk u hu=>?_,?_⟩,by dsimp only;omega⟩
   ·split<;>omega
   ·rcases List.mem_append.1 hk with hk|hk
    ·have:=hx2 k hk u hu
     split<;>omega
    ·simp at hk;subst hk
     rw [ht] at hu;cases hu
     split<;>omega
   ·split
    ·exact .inr ⟨y,t,by simp,ht,rfl⟩
    ·rcases hx3 with h|⟨k,u,h1,h2,h3⟩
     ·exact .inl h
     ·exact .inr ⟨k,u,by simp [h1],h2,h3⟩
theorem zPA (h:Mgr ρ w b s) (n:Int) {k:World->Prop} (H:∀ ρ' w',Mgr ρ' w' b (zBR s n)->Ext ρ w ρ' w'->k w'):
  Cl zA zF5 [.pointer (ptrA b),.int .i64 n].toArray w (λe w'=>e=.returned (.tuple [].toArray)/\k w'):=zII (ptrA b) n w k (zN7 h n H)
theorem zLQ (h:Mgr ρ w b s) (n:Int) {k:World->Prop} (H:∀ ρ' w',Mgr ρ' w' b (zBR s n)->Ext ρ w ρ' w'->k w'):
  opD zA zF5 [.pointer (ptrA b),.int .i64 n] w k:=ClD.mono (zHz (ptrA b) n w k (zN7 h n H)) λe w' h=>⟨⟨_,h.1⟩,h.2⟩
end
end Go.Proofs.YtealcoghiaeiiaaGreat.VG
set_option linter.unusedVariables false
namespace Go.Proofs.YtealcoghiaeiiaaGreat.VG
open Go.VB Go.Proofs Go.RowKit
theorem getE {α:Type} {l:List α} {n:Nat} (h:n<l.length):∃ x,l[n]?=some x:=⟨l[n]'h,by simp⟩
theorem zI0 {α:Type} {l:List α} {n:Nat} {x:α} (h:l[n]?=some x) (p:α->Bool) (hn:(l.take n).any p=false):(l.take (n+1)).any p=p x:=by
 rw [zCy h,List.any_append,hn];simp
theorem zK9 {α:Type} {l:List α} {n:Nat} {x:α} (h:l[n]?=some x) (p:α->Bool) (hp:p x=true):l.any p=true:=List.any_eq_true.2 ⟨x,List.mem_of_getElem? h,hp⟩
def zIn (fv:Value) (p:zG->Bool) (l:List zG) (w:World):Prop:=∀ d∈l,∀ w' (k:Bool->World->Prop),Bel w w'->(∀ w'',Bel w' w''->k (p d) w'')->zGT zA fv [zG.v d] w' (λe w''=>∃ r:Bool,e=.returned (.bool r)/\k r w'')
theorem zIb {w:World} {x:Sl} {l:List zG} (hd:Rd zG.cells 4 w x l) {fv:Value} {p:zG->Bool} (hp:zIn fv p l w) {k:Bool->World->Prop} (H:∀ w',Bel w w'->k (l.any p) w'):
  Cl zA zAG [Sl.v x,fv].toArray w (λe w'=>∃ r0:Bool,e=.returned (.bool r0)/\k r0 w'):=by
 have dbig:=hd.big;have dcap:=hd.cap;have dlen:=hd.len
 refine zAJ x _ w k ?_
 unfold Qt
 refine zAe x _ w _ ?_
 unfold YM
 refine ⟨λi w1=>∃ n:Nat,i=(n:Int)/\n<=l.length/\Bel w w1/\(l.take n).any p=false,λi _=>(x.len - i).toNat,⟨0,rfl,by omega,Bel.refl _,by simp⟩,?_⟩
 rintro i w1 ⟨n,rfl,hn,hb,hno⟩
 unfold yr
 refine ⟨λhc=>?_,λhc=>?_⟩
 ·obtain ⟨d,hdn⟩:=getE (l:=l) (n:=n) (by omega)
  refine zFX (hd.bel hb) ym QN (by omega) (x:=d) (by simpa using hdn) λad hA=>?_
  refine zBb yM d rfl hA rfl ?_
  refine hp d (List.mem_of_getElem? hdn) w1 _ hb λw2 b2=>⟨λht=>?_,λhf=>?_⟩
  ·dsimp only
   rw [decide_eq_true (p:=0<=(n:Int)) (by omega),← zK9 hdn p ht]
   exact H w2 (hb.trans b2)
  ·rw [wr64 (by omega) (by omega)]
   exact ⟨⟨n+1,by omega,by omega,hb.trans b2,by rw [zI0 hdn p hno];exact hf⟩,by dsimp only;omega⟩
 ·obtain rfl:n=l.length:=by omega
  rw [List.take_length] at hno
  have:=H w1 hb
  rw [hno] at this
  exact this
def zJv (fv:Value) (p:z7->Bool) (l:List z7) (w:World):Prop:=∀ d∈l,∀ w' (k:Bool->World->Prop),Bel w w'->(∀ w'',Bel w' w''->k (p d) w'')->zGT zA fv [z7.v d] w' (λe w''=>∃ r:Bool,e=.returned (.bool r)/\k r w'')
theorem zJV {w:World} {x:Sl} {l:List z7} (hd:Rd z7.cells 3 w x l) {fv:Value} {p:z7->Bool} (hp:zJv fv p l w) {k:Bool->World->Prop} (H:∀ w',Bel w w'->k (l.any p) w'):
  Cl zA zDF [Sl.v x,fv].toArray w (λe w'=>∃ r0:Bool,e=.returned (.bool r0)/\k r0 w'):=by
 have dbig:=hd.big;have dcap:=hd.cap;have dlen:=hd.len
 refine zDT x _ w k ?_
 unfold ZZ
 refine zED x _ w _ ?_
 unfold Z5
 refine ⟨λi w1=>∃ n:Nat,i=(n:Int)/\n<=l.length/\Bel w w1/\(l.take n).any p=false,λi _=>(x.len - i).toNat,⟨0,rfl,by omega,Bel.refl _,by simp⟩,?_⟩
 rintro i w1 ⟨n,rfl,hn,hb,hno⟩
 unfold Yc
 refine ⟨λhc=>?_,λhc=>?_⟩
 ·obtain ⟨d,hdn⟩:=getE (l:=l) (n:=n) (by omega)
  refine zFX (hd.bel hb) zGE zJw (by omega) (x:=d) (by simpa using hdn) λad hA=>?_
  refine zBb zFK d rfl hA rfl ?_
  refine hp d (List.mem_of_getElem? hdn) w1 _ hb λw2 b2=>⟨λht=>?_,λhf=>?_⟩
  ·dsimp only
   rw [decide_eq_true (p:=0<=(n:Int)) (by omega),← zK9 hdn p ht]
   exact H w2 (hb.trans b2)
  ·rw [wr64 (by omega) (by omega)]
   exact ⟨⟨n+1,by omega,by omega,hb.trans b2,by rw [zI0 hdn p hno];exact hf⟩,by dsimp only;omega⟩
 ·obtain rfl:n=l.length:=by omega
  rw [List.take_length] at hno
  have:=H w1 hb
  rw [hno] at this
  exact this
def zGQ (fv:Value) (p:zL->Bool) (l:List zL) (w:World):Prop:=∀ d∈l,∀ w' (k:Bool->World->Prop),Bel w w'->(∀ w'',Bel w' w''->k (p d) w'')->zGT zA fv [zL.v d] w' (λe w''=>∃ r:Bool,e=.returned (.bool r)/\k r w'')
theorem zJa {w:World} {x:Sl} {l:List zL} (hd:Rd zL.cells 2 w x l) {fv:Value} {p:zL->Bool} (hp:zGQ fv p l w) {k:Bool->World->Prop} (H:∀ w',Bel w w'->k (l.any p) w'):
  Cl zA zDK [Sl.v x,fv].toArray w (λe w'=>∃ r0:Bool,e=.returned (.bool r0)/\k r0 w'):=by
 have dbig:=hd.big;have dcap:=hd.cap;have dlen:=hd.len
 refine zDH x _ w k ?_
 unfold Zb
 refine zBU x _ w _ ?_
 unfold Y4
 refine ⟨λi w1=>∃ n:Nat,i=(n:Int)/\n<=l.length/\Bel w w1/\(l.take n).any p=false,λi _=>(x.len - i).toNat,⟨0,rfl,by omega,Bel.refl _,by simp⟩,?_⟩
 rintro i w1 ⟨n,rfl,hn,hb,hno⟩
 unfold QK
 refine ⟨λhc=>?_,λhc=>?_⟩
 ·obtain ⟨d,hdn⟩:=getE (l:=l) (n:=n) (by omega)
  refine zFX (hd.bel hb) ZI zAn (by omega) (x:=d) (by simpa using hdn) λad hA=>?_
  refine zBb zAM d rfl hA rfl ?_
  refine hp d (List.mem_of_getElem? hdn) w1 _ hb λw2 b2=>⟨λht=>?_,λhf=>?_⟩
  ·dsimp only
   rw [decide_eq_true (p:=0<=(n:Int)) (by omega),← zK9 hdn p ht]
   exact H w2 (hb.trans b2)
  ·rw [wr64 (by omega) (by omega)]
   exact ⟨⟨n+1,by omega,by omega,hb.trans b2,by rw [zI0 hdn p hno];exact hf⟩,by dsimp only;omega⟩
 ·obtain rfl:n=l.length:=by omega
  rw [List.take_length] at hno
  have:=H w1 hb
  rw [hno] at this
  exact this
def zBr (x:Spn) (key:ByteArray):Bool:=if x.only=true then decide (key=x.from_) else (!sLt key x.from_)&&(decide (x.to_=noB)||sLt key x.to_)
theorem zNP (x:Spn) (key:ByteArray) (w:World) {k:Bool->World->Prop} (H:∀ w',Bel w w'->k (zBr x key) w'):
  Cl zA zJU [z7.v x,.string key].toArray w (λe w'=>∃ r0:Bool,e=.returned (.bool r0)/\k r0 w'):=by
 refine zJY x key w k ?_
 unfold zGR zCD zCE
 refine zAb (cs:=x.cells) rfl λB w1 b1 hX _=>?_
 refine yJ zIi zC1 hX.at x.only rfl ?_
 have h:=H w1 b1
 unfold zBr at h
 refine ⟨λho=>?_,λho=>?_⟩
 ·rw [if_pos ho] at h
  exact yJ zGW zp hX.at x.from_ rfl h
 ·rw [if_neg (by simp [ho])] at h
  refine yJ zGW zp hX.at x.from_ rfl ⟨λh1=>?_,λh1=>?_⟩
  ·rw [h1] at h
   refine yJ zHJ zp hX.at x.to_ rfl ⟨λh2=>?_,λh2=>?_⟩
   ·rw [show decide (x.to_=noB)=true from decide_eq_true h2] at h
    exact h
   ·rw [show decide (x.to_=noB)=false from decide_eq_false h2] at h
    exact yJ zHJ zp hX.at x.to_ rfl h
  ·rw [h1] at h
   exact h
def conf (t:Tx) (v:Ver):Bool:=decide (t.began<v.At)&&t.reads.any (λx=>zBr x v.Key)
theorem zNk (x:Spn) {w:World} {B:Nat} {v:Ver} (hB:Row w B v.cells yE) {k:Bool->World->Prop} (H:∀ w',Bel w w'->k (zBr x v.Key) w'):
  Cl zA zCz [z7.v x,.pointer (ptrA B)].toArray w (λe w'=>∃ r0:Bool,e=.returned (.bool r0)/\k r0 w'):=by
 refine zFv x (ptrA B) w k ?_
 unfold zBi
 refine zAb (cs:=x.cells) rfl λC w1 b1 hX _=>?_
 refine zBb zFK x rfl hX.at rfl ?_
 refine yJ Y3 zp (hB.bel b1).at v.Key rfl ?_
 exact zNP x v.Key w1 λw2 b2=>H w2 (b1.trans b2)
theorem zNu (v:Ver) {w:World} {B tb wb:Nat} {rs:Sl} {t:Tx} (hB:Row w B [.pointer (ptrA tb)] zE8) (hT:Row w tb [.int .u64 t.began,Sl.v rs,.map (some wb)] zA1) (hR:Rd z7.cells 3 w rs t.reads) {k:Bool->World->Prop} (H:∀ w',Bel w w'->k (conf t v) w'):
  Cl zA zDw [zG.v v,.pointer (ptrA B)].toArray w (λe w'=>∃ r0:Bool,e=.returned (.bool r0)/\k r0 w'):=by
 refine zGK v (ptrA B) w k ?_
 unfold zBv ZK
 refine zAb (cs:=v.cells) rfl λC w1 b1 hX _=>?_
 have hB1:=hB.bel b1
 have hT1:=hT.bel b1
 refine zGL zAT yF hX.at v.At rfl ?_
 refine zLv zBJ (ptrA tb) hB1.cell ⟨trivial,?_⟩
 refine zGL zD7 yF hT1.at t.began rfl ⟨λhc=>?_,λhc=>?_⟩
 ·refine zLv zBJ (ptrA tb) hB1.cell ⟨trivial,?_⟩
  refine zGL zBG zBn hT1.at rs rfl ?_
  refine ⟨t.reads.any (λx=>zBr x v.Key),λW hW=>?_,λW hW=>?_⟩
  ·refine (zJV (hR.bel (b1.trans hW)) (p:=λx=>zBr x v.Key) (λd _ w' k' hb hk=>.inl ⟨zCz,[],[.pointer (ptrA C)],rfl,zRa,zNk d ((hX.bel hW).bel hb) hk⟩) (k:=λr w'=>r=t.reads.any (λx=>zBr x v.Key)/\Bel W w') λw' hb=>⟨rfl,hb⟩).mono λe w' ⟨r,he,hr,hb⟩=>⟨by rw [he,hr],hb⟩
  ·have:=H W (b1.trans hW)
   unfold conf at this
   rw [decide_eq_true hc,Bool.true_and] at this
   exact this
 ·intro W hW
  have:=H W (b1.trans hW)
  unfold conf at this
  rw [decide_eq_false hc,Bool.false_and] at this
  exact this
theorem zIj {ρ:Own} {w:World} {b:Nat} {s:St} {vs:Sl} {mb:Nat} {g:Int->Gh} (m:zCQ ρ w b s vs mb g) {n:Int} {t:Tx} (ht:s.tx n=some t) {k:Bool->World->Prop} (H:∀ w',Bel w w'->k (s.l.any (conf t)) w'):
  Cl zA zGl [.pointer (ptrA b),.pointer (ptrA (g n).tb)].toArray w (λe w'=>∃ r0:Bool,e=.returned (.bool r0)/\k r0 w'):=by
 refine zGh (ptrA b) (ptrA (g n).tb) w k ?_
 unfold zCR
 refine zAb (cs:=[.pointer (ptrA (g n).tb)]) rfl λB w1 b1 hB _=>⟨trivial,?_⟩
 have m1:=m.bel b1
 have mt:=m1.tx n t ht
 refine ⟨_,w1,xV _ _,?_⟩
 refine yJ yC yB m1.versAt vs rfl ?_
 exact zIb m1.vers (p:=conf t) (λd _ w' k' hb hk=>.inl ⟨zDw,[],[.pointer (ptrA B)],rfl,zRe,zNu d (hB.bel hb) (mt.row.bel hb) ((mt.rd.rd λ_=>rfl).bel hb) hk⟩) λw2 b2=>H w2 (b1.trans b2)
end Go.Proofs.YtealcoghiaeiiaaGreat.VG
set_option linter.unusedVariables false
namespace Go.Proofs.YtealcoghiaeiiaaGreat.VG
open Go.VB Go.VB.Srt Go.Proofs Go.RowKit
abbrev zBw (base:Nat) (w:World) (s:Sl) (l:List Wri):Prop:=OwnS zI.cells 3 Zs base w s l
theorem zBw.rd {base:Nat} {w:World} {s:Sl} {l:List Wri} (h:zBw base w s l):zIK w s l:=OwnS.rd h (λ_=>rfl)
abbrev encW (x:Wri):List Value:=[zI.v x]
theorem zLf {κ ν:Type} {w w':World} {ek:κ->Value} {ev:ν->Value} {b r:Nat} {f:κ->Option ν} {ks:List κ} (h:zAx ek ev w b r f ks) (hk:KeepsWalks w w'):zAx ek ev w' b r f ks:=by
 obtain ⟨c,sb,h1⟩:=h.blk
 obtain ⟨es,c',h2⟩:=h.mapLt
 exact h.keep ((hk.same b _ h2 rfl).trans h2.symm) ((hk.same r _ h1 rfl).trans h1.symm)
theorem KeepsWalks.row {w w':World} {row:Option Nat} (hg:w.grownBy w' row) (hr:∀ r,row=some r->∃ cs t fr,w.heap[r]?=some (.cells cs t fr)):KeepsWalks w w':=
 ⟨hg.size,λk o hk ho=>(hg.block k (Array.getElem?_eq_some_iff.1 hk).1 (λe=>by
  obtain ⟨cs,t,fr,h⟩:=hr k e.symm
  rw [h] at hk;cases hk;cases ho)).trans hk⟩
def zLG (f:ByteArray->Option Wri) (xs:List Wri):Prop:=∃ ks,Doms f ks/\xs=ks.filterMap f
theorem zGg {α β:Type} (f:α->Option β) (ks:List α) (h:∀ k∈ks,∃ v,f k=some v):(ks.filterMap f).length=ks.length:=by
 induction ks with
 |nil=>rfl
 |cons a ks ih=>
  obtain ⟨v,hv⟩:=h a (by simp)
  rw [List.filterMap_cons_some hv,List.length_cons,List.length_cons,ih λk hk=>h k (by simp [hk])]
theorem zMZ {w:World} {f:ByteArray->Option Wri} {b b1:Nat} (h:Zk za zI.v w b f) (h1:Row w b1 [.map (some b)] zGp) {dom:List ByteArray} (hd:Doms f dom):
  SeqStopsK (FW none) 0 zA ZL [.pointer (some ⟨b1,0,none⟩)].toArray (λx=>(encW x).toArray) KeepsWalks (zLG f) (λ_=>True) dom.length w:=by
 intro l' J Jx W hW hJ hJx hY h0
 have C:=zBZ (.func (.yield l') #[] #[]) (some ⟨b1,0,none⟩) W (λw'=>(∃ xs,zLG f xs/\J xs w')∨(∃ pre,True/\Jx pre w')) ?_
 ·exact CallsIn.mono C λe w' hr=>⟨⟨_,hr.1⟩,hr.2⟩
 unfold YE
 refine zA2 Qf (some b) (h1.bel hW).cell ?_
 refine zOw (h.bel hW) YP λW1 hi hb1=>?_
 have hblt:b<W.heap.size:=(h.bel hW).lt
 have hj0:J [] W1:=hJ _ _ _ none h0 (zg hb1 none) (λr e=>by cases e)
 generalize hR:W.heap.size=R at hi hblt ⊢
 refine ⟨λw1=>∃ ks,zAx za zI.v w1 b R f ks/\J (ks.filterMap f) w1,λw1=>dom.length - zG7 w1 R,⟨[],hi,hj0⟩,?_⟩
 rintro w1 ⟨ks,hi1,hj1⟩
 unfold yj
 refine zMn hi1 (by omega) zH9 (λhall=>?_) λx v w2 hx hn hi2 hg=>?_
 ·exact ⟨λ_=>.inl ⟨_,⟨ks,⟨hi1.nd,λx=>⟨hi1.dom x,λ⟨v,hv⟩=>hall x v hv⟩⟩,rfl⟩,hj1⟩,λk v e=>by cases e⟩
 ·refine ⟨λe=>(nomatch e),λk v' e=>?_⟩
  cases e
  have hj2:J (ks.filterMap f) w2:=hJ _ _ _ (some R) hj1 hg (λr e=>by
   cases e
   obtain ⟨c,sb,hb⟩:=hi1.blk
   exact ⟨by omega,_,hb,rfl⟩)
  have hcl:(ks++[x]).length<=dom.length:=zFr hi2.nd λy hy=>(hd.2 y).2 (hi2.dom y hy)
  have hl1:=hi1.size
  rw [yO,List.length_singleton] at hcl
  have hfl:=zGg f ks hi1.dom
  refine zHc hi2 hx zH9 ?_
  refine zCs zBk rfl YO (cs:=v.cells) rfl rfl rfl λC w3 b3 hX _=>?_
  have hj3:J (ks.filterMap f) w3:=hJ _ _ _ none hj2 (zg b3 none) (λr e=>by cases e)
  have hi3:=hi2.bel b3
  refine zBb YO v rfl hX.at rfl ?_
  refine .inr ⟨l',rfl,YieldAt.mono (hY _ v w3 hj3 (by omega)) λe' w4 hr=>?_⟩
  rcases hr with ⟨rfl,hj4,hk⟩|⟨rfl,hj4⟩
  ·refine ⟨true,rfl,λh=>(nomatch h),λ_=>?_⟩
   have hi4:=zLf hi3 hk
   refine ⟨⟨_,hi4,by rw [List.filterMap_append,List.filterMap_cons_some hx];exact hj4⟩,?_⟩
   have hl3:=hi4.size
   rw [yO,List.length_singleton] at hl3
   dsimp only
   omega
  ·exact ⟨false,rfl,λ_=>.inr ⟨_,trivial,hj4⟩,λh=>(nomatch h)⟩
theorem zNn {w:World} {f:ByteArray->Option Wri} {b:Nat} (h:Zk za zI.v w b f) {dom:List ByteArray} (hd:Doms f dom) {k:Value->World->Prop}
  (H:∀ v w',zIz zA v encW KeepsWalks (zLG f) (λ_=>True) dom.length w'->Bel w w'->k v w'):
  Cl zA zBg [.map (some b)].toArray w (λe w'=>∃ v:Value,e=.returned v/\k v w'):=by
 refine zBe (some b) w k ?_
 unfold YT
 refine zAb (cs:=[.map (some b)]) rfl λB w1 b1 hr1 _=>?_
 exact H _ _ ⟨ZL,_,rfl,zQm,zMZ (h.bel b1) hr1 hd⟩ b1
theorem zOP {base:Nat} {w0 w:World} {s:Sl} {l:List Wri} {x:Wri} {k:Sl->World->Prop} (hO:zBw base w s l) (hB:Bel w0 w) (hb:w0.heap.size<=base) (hbw:base<=w.heap.size) (room:l.length+1<=1000000000)
  (H:∀ s' w',zBw base w' s' (l++[x])->Bel w0 w'->w.grownBy w' (Sl.v s).ownBlock->k s' w'):
  opE zA Sl.v (zr zAK 1 [(0,zI.v x)].toArray) w (λy w=>opE zA Sl.v (Builtin.append_ #[zAK,zAK] zAK [Sl.v s,Sl.v y].toArray) w k):=
 zMc hO (λ_=>rfl) (λ_=>rfl) (by decide) zBa zJL rfl (by decide) (zJZ x) hB hb hbw (by omega) H
theorem zLq {v:Value} {Sq Sp:List Wri->Prop} {Num:Nat} {w:World} (hs:zIz zA v encW KeepsWalks Sq Sp Num w) (hN:Num<=100000000) {k:Sl->World->Prop}
  (H:∀ r w' xs base,w.heap.size<=base->Sq xs->zBw base w' r xs->Bel w w'->k r w'):Cl zA zF7 [v].toArray w (λe w'=>∃ r0:Sl,e=.returned (Sl.v r0)/\k r0 w'):=by
 refine zF6 v w k ?_
 unfold zBo
 refine zDf Sl.none v w k ?_
 unfold Zh
 refine zRA rfl ?_
 have hb0:Bel w (w.alloc (.cells [Sl.v Sl.none].toArray zAK)):=Bel.alloc _ _
 have hr0:=Row.new w [Sl.v Sl.none] zAK
 have hsz:(w.alloc (.cells [Sl.v Sl.none].toArray zAK)).heap.size=w.heap.size+1:=size_alloc' _ _
 have hlo0:=hr0.lt
 generalize hB:w.heap.size=B at hr0 hsz hlo0 ⊢
 generalize (w.alloc (.cells [Sl.v Sl.none].toArray zAK))=w1 at hb0 hr0 hsz hlo0 ⊢
 refine ⟨zI.cells,KeepsWalks,Sq,Sp,Num,λpre W=>∃ sl,Row W B [Sl.v sl] zAK/\zBw w1.heap.size W sl pre/\Bel w W/\w1.heap.size<=W.heap.size,λ_ _=>False,
  ⟨hs.later hb0,λ_ _ _=>KeepsWalks.trans,λW l o o' h1 h2 h3 h4=>KeepsWalks.putObj o' h2 h4,λpre W o _=>KeepsWalks.alloc W o,λs W W' row hi hg hr=>?_,λs W W' row hi hg hr=>hi,λpre W hi=>hi.elim λ_ h=>h.2.2.2,⟨Sl.none,hr0,OwnS.nil _ _ _ _ _,hb0,zV _⟩⟩,
  λx W k hk=>zPl zBk rfl YO (cs:=x.cells) rfl rfl rfl hk,?_,?_,?_⟩
 ·obtain ⟨sl,h1,h2,h3,h4⟩:=hi
  exact ⟨sl,h1.notwalk hg hr,h2.notwalk hg hr,h3.notwalk (by omega) hg hr,zl h4 hg.size⟩
 ·rintro pre x Bx W hBx hx ⟨sl,h1,h2,h3,h4⟩ hlen
  unfold ZD
  have hx':Row W Bx x.cells Zs:=hx
  refine zA2 zBz sl h1.cell ?_
  refine zBb YO x rfl hx'.at rfl ?_
  refine zOP (w0:=w) (w:=W) h2 h3 (by omega) h4 (by omega) λs' w' h5 h6 h7=>?_
  have hne:(Sl.v sl).ownBlock≠some B:=λe=>by have:=h2.lo e;omega
  have hr1:=h1.grown h7 hne
  refine zH4 zBz hr1 (by cases s' with|mk a l c=>cases a<;>rfl) (by cases s' with|mk a l c=>cases a<;>rfl) λw'' hr2 hg2=>?_
  refine ⟨(KeepsFrom.row h7 λr hr=>h2.isRow hr).trans (KeepsFrom.row hg2 λr hr=>by cases hr;exact ⟨_,_,_,hr1⟩),(KeepsWalks.row h7 λr hr=>h2.isRow hr).trans (KeepsWalks.row hg2 λr hr=>by cases hr;exact ⟨_,_,_,hr1⟩),s',hr2,h5.kept hg2 ?_,?_,zl h4 (zl h7.size hg2.size)⟩
  ·cases hq:(Sl.v s').ownBlock with
   |none=>exact .inl rfl
   |some q=>
    refine .inr λe=>?_
    have h8:=h5.lo hq
    have h9:=Option.some.inj e
    omega
  ·exact h6.grown hg2 λr hr=>by cases hr;omega
 ·rintro D xs W hD hS ⟨sl,h1,h2,h3,h4⟩ hK
  refine zA2 zBz sl h1.cell ?_
  refine ⟨hK,?_⟩
  have hg:=zIQ W D
  have hr:∀ r,some D=some r->w1.heap.size<=r/\∃ o:Obj,W.heap[r]?=some o/\o.isCells=false:=λr e=>by cases e;exact ⟨hD,_,hK,rfl⟩
  exact H sl _ xs _ (by omega) hS (h2.notwalk hg hr) (h3.notwalk (by omega) hg hr)
 ·exact λD pre W h1 h2 h3 h4=>trivial
def kltB (a b:Wri):Bool:=sLt a.Key b.Key
theorem zOM:Srt.SWO kltB where
 irr x:=by
  cases h:kltB x x with
  |false=>rfl
  |true=>exact absurd h (zAs x.Key)
 neg x y z h:=by
  unfold kltB at*
  by_cases h1:sLt x.Key y.Key=true
  ·exact .inl h1
  ·right
   by_cases h2:x.Key=y.Key
   ·rw [← h2];exact h
   ·exact zHw (zEr h1 h2) h
 asy x y h:=by
  cases h1:kltB y x with
  |false=>rfl
  |true=>exact absurd h1 (zHB h)
theorem zMo (a b:Wri) (w:World) {k:Int->World->Prop} (H:∀ w',Bel w w'->k (cmpS a.Key b.Key) w'):Cl zA zE2 [zI.v a,zI.v b].toArray w (λe w'=>∃ r0:Int,e=.returned (.int .i64 r0)/\k r0 w'):=by
 refine zIW a b w k ?_
 unfold zFS
 refine zAb (cs:=a.cells) rfl λB w1 b1 hA _=>?_
 refine zAb (cs:=b.cells) rfl λC w2 b2 hB _=>?_
 refine yJ Yt zp (hA.bel b2).at a.Key rfl ?_
 refine yJ Yt zp hB.at b.Key rfl ?_
 exact zHm a.Key b.Key w2 (H w2 (b1.trans b2))
theorem zK4:SoCmpFunc_api_Write.Cmps (.func (.func zE2) #[] #[]) kltB:=λw x y=>
 ⟨cmpS x.Key y.Key,⟨zE2,[],[],rfl,zRT,λw' _=>(zMo x y w' (k:=λr W=>r=cmpS x.Key y.Key/\Bel w' W) λW hb=>⟨rfl,hb⟩).mono λe W ⟨r,he,hr,hb⟩=>⟨by rw [he,hr],hb⟩⟩,by rw [zLT];exact Iff.rfl⟩
def zE9 (f:ByteArray->Option Wri) (ys:List Wri):Prop:=ys.Pairwise (λa b=>sLt a.Key b.Key=true)/\∀ x,x∈ys↔f x.Key=some x
theorem zE9.one {f:ByteArray->Option Wri} {xs ys:List Wri} (h:zE9 f xs) (k:zE9 f ys):xs=ys:=by
 have hm:∀ x,x∈xs↔x∈ys:=λx=>by rw [h.2,k.2]
 have h1:=h.1
 have k1:=k.1
 clear h k
 induction xs generalizing ys with
 |nil=>cases ys with
  |nil=>rfl
  |cons b ys=>exact absurd ((hm b).2 (by simp)) (by simp)
 |cons a xs ih=>
  cases ys with
  |nil=>exact absurd ((hm a).1 (by simp)) (by simp)
  |cons b ys=>
   obtain ⟨h2,h3⟩:=List.pairwise_cons.1 h1
   obtain ⟨k2,k3⟩:=List.pairwise_cons.1 k1
   have hab:a=b:=by
    rcases List.mem_cons.1 ((hm a).1 (by simp)) with e|e
    ·exact e
    ·rcases List.mem_cons.1 ((hm b).2 (by simp)) with e'|e'
     ·exact e'.symm
     ·exact absurd (h2 b e') (zHB (k2 a e))
   subst hab
   rw [ih (λx=>?_) h3 k3]
   constructor
   ·intro hx
    rcases List.mem_cons.1 ((hm x).1 (by simp [hx])) with e|e
    ·subst e;exact absurd (h2 x hx) (zAs _)
    ·exact e
   ·intro hx
    rcases List.mem_cons.1 ((hm x).2 (by simp [hx])) with e|e
    ·subst e;exact absurd (k2 x hx) (zAs _)
    ·exact e
theorem zOa {f:ByteArray->Option Wri} (hk:∀ k x,f k=some x->x.Key=k) {xs ys:List Wri} (hx:zLG f xs) (hp:ys.Perm xs) (hl:ys.Pairwise (λx y=>Le kltB x y)):zE9 f ys/\∃ ks,Doms f ks/\ks.length=ys.length:=by
 obtain ⟨ks,hd,rfl⟩:=hx
 have hmem:∀ x,x∈ys↔f x.Key=some x:=λx=>by
  rw [hp.mem_iff,List.mem_filterMap]
  constructor
  ·rintro ⟨k,_,h⟩
   rw [hk k x h];exact h
  ·exact λh=>⟨x.Key,(hd.2 _).2 ⟨x,h⟩,h⟩
 have hnd:(ks.filterMap f).Pairwise (λx y=>x.Key≠y.Key):=by
  rw [List.pairwise_filterMap]
  refine hd.1.imp λ{a b} hab x hx y hy e=>hab ?_
  rw [← hk a x hx,← hk b y hy,e]
 have hnd':ys.Pairwise (λx y=>x.Key≠y.Key):=(hp.pairwise_iff (λ{x y} h=>h.symm)).2 hnd
 have hstr:ys.Pairwise (λa b=>sLt a.Key b.Key=true):=(hl.and hnd').imp λ{x y} h12=>by
  cases h:sLt x.Key y.Key with
  |true=>rfl
  |false=>
   have h3:sLt y.Key x.Key=true:=zEr (by rw [h];decide) h12.2
   have h4:sLt y.Key x.Key=false:=h12.1
   rw [h3] at h4;cases h4
 exact ⟨⟨hstr,hmem⟩,ks,hd,by rw [hp.length_eq,zGg f ks λk hk'=>(hd.2 k).1 hk']⟩
theorem zKD {ρ:Own} {w:World} {n:Int} {t:Tx} {g:Gh} (mt:TxAt ρ w n t g) (hk:∀ k x,t.wr k=some x->x.Key=k) {dom:List ByteArray} (hd:Doms t.wr dom) (hN:dom.length<=100000000) {k:Sl->World->Prop}
  (H:∀ r w' ys base,w.heap.size<=base->zE9 t.wr ys->zBw base w' r ys->Bel w w'->k r w'):
  Cl zA zJD [.pointer (ptrA g.tb)].toArray w (λe w'=>∃ r0:Sl,e=.returned (Sl.v r0)/\k r0 w'):=by
 refine zJB (ptrA g.tb) w k ?_
 unfold zFy
 refine ⟨trivial,?_⟩
 refine yJ Z8 Qf mt.row.at (some g.wb) rfl ?_
 refine zNn mt.wr hd λv w1 hs b1=>?_
 refine zFg v _ w1 k ?_
 unfold zBM
 refine zLq hs hN λr w2 xs base hb hS hO hbel=>?_
 refine SoCmpFunc_api_Write.sort_ok zOM zK4 hO λys w3 hp hpw hO2 hg=>?_
 exact H r w3 ys base (zl b1.le hb) (zOa hk hS hp hpw).1 hO2 ((b1.trans hbel).grown hg λq hq=>zl (zl b1.le hb) (hO.lo hq))
end Go.Proofs.YtealcoghiaeiiaaGreat.VG
set_option linter.unusedVariables false
namespace Go.Proofs.YtealcoghiaeiiaaGreat.VG
open Go.VB Go.Proofs Go.RowKit
def putS (s:St) (p:List Ver × Int × Int):St:={s with l:=p.1,low:=p.2.1,now:=s.now+1}
theorem _root_.Go.VB.OwnS.low {α:Type} {c:α->List Value} {n e base base':Nat} {w:World} {s:Sl} {xs:List α} (h:OwnS c n e base w s xs) (hb:base'<=base):OwnS c n e base' w s xs:=by
 refine ⟨h.len,h.small,h.row.1,?_⟩
 rcases h.row.2 with h1|⟨g,cap,cur,h1,h2,h3⟩
 ·exact .inl h1
 ·exact .inr ⟨g,cap,cur,h1,zl hb h2,h3⟩
def Few (t:Tx):Prop:=∃ ks,Doms t.wr ks/\ks.length<=256
def zKi (t:Tx):Prop:=∀ k x,t.wr k=some x->x.Key=k
theorem wu64 {n:Int} (h0:0<=n) (h1:n<=18446744073709551615):zB .u64 n=n:=IntWalk.u64_in _ ⟨h0,h1⟩
section
variable {ρ:Own} {w:World} {b:Nat} {s:St}
theorem zOU (h:Mgr ρ w b s) (n:Int) {k:Int->World->Prop} (H0:s.tx n=none->k 11 w) (H1:∀ t ρ' w',s.tx n=some t->Mgr ρ' w' b (zBR s n)->Ext ρ w ρ' w'->k 0 w'):
  Cl zA zFq [.pointer (ptrA b),.int .i64 n].toArray w (λe w'=>∃ r0:Int,e=.returned (.int .i64 r0)/\k r0 w'):=by
 have h':=h
 obtain ⟨vs,mb,g,m⟩:=h
 refine zHj (ptrA b) n w k ?_
 unfold zEU
 refine zKf m n (λht=>⟨λ_=>H0 ht,λh=>absurd (by decide) h⟩) λt ht=>⟨λh=>absurd rfl h,λ_=>?_⟩
 exact zPA h' n λρ' w' hM hE=>H1 t ρ' w' ht hM hE
theorem zPX (h:Mgr ρ w b s) (n:Int) (hF:∀ t,s.tx n=some t->Few t/\zKi t) {k:Sl->Bool->Int->World->Prop} (H0:s.tx n=none->k Sl.none false 11 w)
  (H1:∀ t r w' ys base,s.tx n=some t->w.heap.size<=base->zE9 t.wr ys->zBw base w' r ys->Bel w w'->k r (s.l.any (conf t)) 0 w'):
  Cl zA zF2 [.pointer (ptrA b),.int .i64 n].toArray w (λe w'=>∃ (r0:Sl) (r1:Bool) (r2:Int),e=.returned (.tuple [Sl.v r0,.bool r1,.int .i64 r2].toArray)/\k r0 r1 r2 w'):=by
 obtain ⟨vs,mb,g,m⟩:=h
 refine zID (ptrA b) n w k ?_
 unfold zEx
 refine zKf m n (λht=>⟨λ_=>H0 ht,λh=>absurd (by decide) h⟩) λt ht=>⟨λh=>absurd rfl h,λ_=>?_⟩
 obtain ⟨⟨dom,hd,hl⟩,hk⟩:=hF t ht
 refine zKD (m.tx n t ht) hk hd (by omega) λr w1 ys base hb hS hO b1=>?_
 exact zIj (m.bel b1) ht λw2 b2=>H1 t r w2 ys base ht hb hS (hO.bel b2) (b1.trans b2)
theorem zI9 (h:Mgr ρ w b s) (n:Int) (hF:∀ t,s.tx n=some t->Few t/\zKi t) (hn0:0<=s.now) (hn1:s.now<4611686018427387904) {k:Sl->Int->Int->World->Prop}
  (H0:s.tx n=none->k Sl.none 0 11 w)
  (H1:∀ t ρ' w',s.tx n=some t->s.l.any (conf t)=true->Mgr ρ' w' b (zBR s n)->Ext ρ w ρ' w'->k Sl.none 0 10 w')
  (H2:∀ t ρ' w',s.tx n=some t->s.l.any (conf t)=false->(∀ x,t.wr x=none)->Mgr ρ' w' b (zBR s n)->Ext ρ w ρ' w'->k Sl.none s.now 0 w')
  (H3:∀ t ys ρ' w',s.tx n=some t->s.l.any (conf t)=false->zE9 t.wr ys->(∃ x,t.wr x≠none)->(vput s.l s.low ys (s.now+1)).2.2≠0->Mgr ρ' w' b (zBR s n)->Ext ρ w ρ' w'->k Sl.none 0 (vput s.l s.low ys (s.now+1)).2.2 w')
  (H4:∀ t ys r ρ' w',s.tx n=some t->s.l.any (conf t)=false->zE9 t.wr ys->(∃ x,t.wr x≠none)->(vput s.l s.low ys (s.now+1)).2.2=0->Mgr ρ' w' b (zBR (putS s (vput s.l s.low ys (s.now+1))) n)->Ext ρ w ρ' w'->
   zBw w.heap.size w' r ys->(∀ q,(Sl.v r).ownBlock=some q->w.heap.size<=q/\q<w'.heap.size/\ρ' q=none)->k r (s.now+1) 0 w'):
  Cl zA zFa [.pointer (ptrA b),.int .i64 n].toArray w (λe w'=>∃ (r0:Sl) (r1:Int) (r2:Int),e=.returned (.tuple [Sl.v r0,.int .u64 r1,.int .i64 r2].toArray)/\k r0 r1 r2 w'):=by
 obtain ⟨vs,mb,g,m⟩:=h
 refine zHS (ptrA b) n w k ?_
 unfold zD3
 refine zKf m n (λht=>⟨λ_=>H0 ht,λh=>absurd (by decide) h⟩) λt ht=>⟨λh=>absurd rfl h,λ_=>?_⟩
 refine zIj m ht λw1 b1=>?_
 have m1:=m.bel b1
 refine ⟨λhc=>zLQ ⟨_,_,_,m1⟩ n λρ' w' hM hE=>H1 t ρ' w' ht hc hM ((Ext.bel b1).trans hE),λhc=>⟨trivial,?_⟩⟩
 have mt1:=m1.tx n t ht
 refine yJ Z8 Qf mt1.row.at (some (g n).wb) rfl ?_
 refine zMP mt1.wr zH9 YP λks hks=>⟨λhz=>⟨trivial,?_⟩,λhz=>?_⟩
 ·have hks0:ks=[]:=List.eq_nil_of_length_eq_zero (by omega)
  have hno:∀ x,t.wr x=none:=λx=>by
   cases hx:t.wr x with
   |none=>rfl
   |some y=>have:=(hks.2 x).2 ⟨y,hx⟩;rw [hks0] at this;cases this
  refine zGL ZO yF m1.row.at s.now rfl λw2 b2=>?_
  exact zLQ ⟨_,_,_,m1.bel b2⟩ n λρ' w' hM hE=>H2 t ρ' w' ht hc hno hM ((Ext.bel (b1.trans b2)).trans hE)
 obtain ⟨⟨dom,hd,hl⟩,hk⟩:=hF t ht
 have hex:∃ x,t.wr x≠none:=by
  cases ks with
  |nil=>exact absurd rfl hz
  |cons x ks=>obtain ⟨y,hy⟩:=(hks.2 x).1 (by simp);exact ⟨x,by rw [hy];simp⟩
 refine zKD mt1 hk hd (by omega) λr w2 ys base hb hS hO b2=>?_
 have b02:=b1.trans b2
 have m2:=m1.bel b2
 have J1:∀ W C r4 base4,Bel w2 W->Row W C [Sl.v r4,.int .u64 (vput s.l s.low ys (s.now+1)).2.1] yA->w2.heap.size<=base4->ZY base4 W r4 (vput s.l s.low ys (s.now+1)).1->
   Zd (ptrA b) n k r (vput s.l s.low ys (s.now+1)).2.2 (ptrA C) W:=by
  intro W C r4 base4 hb2 hC hb4 hO4
  unfold Zd
  have b0W:=b02.trans hb2
  have mW:=m.bel b0W
  refine ⟨λhne=>zLQ ⟨_,_,_,mW⟩ n λρ' w' hM hE=>H3 t ys ρ' w' ht hc hS hex hne hM ((Ext.bel b0W).trans hE),λhz0=>?_⟩
  have hz0:=Classical.not_not.1 hz0
  refine zBb z6 ⟨r4,(vput s.l s.low ys (s.now+1)).2.1⟩ rfl hC.at rfl ⟨trivial,?_⟩
  refine ⟨_,W,xV _ _,?_⟩
  refine zP5 z6 (vs:=[Sl.v r4,.int .u64 (vput s.l s.low ys (s.now+1)).2.1]) (off:=0) mW.row rfl (by simp) (by cases r4 with|mk a l c=>cases a<;>rfl) λW1 hR1 g1=>⟨trivial,?_⟩
  replace hR1:Row W1 b [Sl.v r4,.int .u64 (vput s.l s.low ys (s.now+1)).2.1,.int .u64 s.now,.int .i64 s.given,.map (some mb)] Zf:=hR1
  refine yJ ZO yF hR1.at s.now rfl ⟨trivial,?_⟩
  rw [wu64 (by omega) (by omega)]
  refine ⟨_,W1,ZO _ _,?_⟩
  refine zH1 yF hR1 rfl (by simp) rfl λW2 hR2 g2=>⟨trivial,?_⟩
  replace hR2:Row W2 b [Sl.v r4,.int .u64 (vput s.l s.low ys (s.now+1)).2.1,.int .u64 (s.now+1),.int .i64 s.given,.map (some mb)] Zf:=hR2
  have hg:=zS g1 g2
  have hs2:=b02.le
  have hsW:=hb2.le
  have hsg:=hg.size
  have hnew:∀ q,(Sl.v r4).ownBlock=some q->q<W.heap.size/\ρ q=none:=λq hq=>by
   refine ⟨hO4.lt hq,?_⟩
   have h2:=hO4.lo hq
   cases hρ:ρ q with
   |none=>rfl
   |some r0=>have h3:=m.lt q (by rw [hρ];simp);omega
  have m3:=mW.setVers (ZY.rd hO4) hnew hg hR2
  have hE3:Ext ρ w (λq=>if (Sl.v r4).ownBlock=some q then some .ve else ρ q) W2:=⟨(Ext.bel b0W).out.trans (Out.row (S:=λq=>ρ q≠none) hg λq hq=>by cases hq;exact .inl (by show ρ _≠none;rw [m.rmg];simp)) λ_ _ h=>h,λq hq=>if_neg λe=>by have:=hO4.lo e;omega⟩
  refine zGL ZO yF hR2.at (s.now+1) rfl λW3 b3=>?_
  refine zLQ (s:=putS s (vput s.l s.low ys (s.now+1))) ⟨_,_,_,m3.bel b3⟩ n λρ' w' hM hE=>?_
  have hrq:∀ q,(Sl.v r).ownBlock=some q->w.heap.size<=q/\q<w2.heap.size/\ρ q=none/\(if (Sl.v r4).ownBlock=some q then some Role.ve else ρ q)=none:=λq hq=>by
   have h1:=hO.lo hq
   have h2:=hO.lt hq
   have h3:ρ q=none:=by
    cases hρ:ρ q with
    |none=>rfl
    |some r0=>have h3:=m.lt q (by rw [hρ];simp);have:=b1.le;omega
   refine ⟨by have:=b1.le;omega,h2,h3,?_⟩
   rw [if_neg λe=>by have:=hO4.lo e;omega];exact h3
  have hs3:=b3.le
  refine H4 t ys r ρ' w' ht hc hS hex hz0 hM ((hE3.trans (Ext.bel b3)).trans hE) ((hO.low (zl b1.le hb)).keep λq hq=>?_) λq hq=>?_
  ·obtain ⟨h1,h2,h3,h4⟩:=hrq q hq
   rw [hE.blk (by omega) h4,b3.block q (by omega),hg.block q (by omega) (λe=>by cases e;rw [m.rmg] at h3;cases h3),hb2.block q h2]
  ·obtain ⟨h1,h2,h3,h4⟩:=hrq q hq
   have:=hE.out.size
   exact ⟨h1,by omega,(hE.same q (by omega)).trans h4⟩
 refine ⟨Bel w2,λu bu=>⟨bu,trivial,?_⟩⟩
 refine zFf xV ⟨trivial,?_⟩
 refine zFf ZO ?_
 refine zKh z6 (cs:=[Sl.v vs,.int .u64 s.low]) ⟨vs,s.low⟩ rfl (λW hW=>(m2.bel hW).versAt) rfl ?_
 refine zC5 yF s.now (λW hW=>(m2.bel hW).row.at.fld rfl) ?_
 rw [wu64 (by omega) (by omega)]
 constructor
 ·refine zNS (x0:=⟨vs,s.low⟩) (m2.bel bu).vers ((zBw.rd hO).bel bu) (s.now+1) λr4 w3 base4 hb4 hO4 b3=>?_
  refine ⟨bu.trans b3,?_⟩
  refine zEv zAW λC w4 b4 hC hC0=>⟨(bu.trans b3).trans b4,?_⟩
  refine zHZ z6 (cs':=[Sl.v r4,.int .u64 (vput s.l s.low ys (s.now+1)).2.1]) hC rfl rfl (by cases r4 with|mk a l c=>cases a<;>rfl) λw5 hC5 g5=>?_
  have b3l:=b3.le
  have bul:=bu.le
  have b5:Bel w2 w5:=((bu.trans b3).trans b4).grown g5 λq hq=>by cases hq;omega
  exact ⟨b5,J1 w5 C r4 base4 b5 hC5 (by omega) ((hO4.bel b4).kept g5 (OwnS.ne_row (hO4.bel b4) hC (by decide) |> Or.inr))⟩
 ·refine zEv zAW λC w3 b3 hC hC0=>⟨bu.trans b3,?_⟩
  refine zNS (x0:=⟨vs,s.low⟩) (m2.bel (bu.trans b3)).vers ((zBw.rd hO).bel (bu.trans b3)) (s.now+1) λr4 w4 base4 hb4 hO4 b4=>?_
  refine ⟨(bu.trans b3).trans b4,?_⟩
  refine zHZ z6 (cs':=[Sl.v r4,.int .u64 (vput s.l s.low ys (s.now+1)).2.1]) (hC.bel b4) rfl rfl (by cases r4 with|mk a l c=>cases a<;>rfl) λw5 hC5 g5=>?_
  have b3l:=b3.le
  have bul:=bu.le
  have b5:Bel w2 w5:=((bu.trans b3).trans b4).grown g5 λq hq=>by cases hq;omega
  exact ⟨b5,J1 w5 C r4 base4 b5 hC5 (by omega) (hO4.kept g5 (OwnS.ne_row hO4 (hC.bel b4) (by decide) |> Or.inr))⟩
end
end Go.Proofs.YtealcoghiaeiiaaGreat.VG
set_option linter.unusedVariables false
set_option linter.unusedSimpArgs false
namespace Go.Proofs.YtealcoghiaeiiaaGreat.VG
open Go.VB Go.Proofs
def zD6 (Ret:(Option Addr)->Int->World->Prop) (x14:Option Addr) (x21:Int) (Kl1:Int->World->Prop) (x6:Option Addr) (x38:Bool) (w:World):Prop:=
 yI w (λw=>(x38=true->(Ret none 2 w))/\(x38=false->(regC w (λC3 w=>QU (.pointer x14)/\(opC C3 zA zC (zN 87 (.pointer x14) 0) (λx42=>opC C3 zA zC (zN 69 (.pointer x42) 0) (λx43=>opC C3 zA zC (zN 66 (.pointer x6) 0) (λx45=>opC C3 zA zC (zN 66 (.pointer x6) 1) (λx47=>opC C3 zA Sl.v (zD 67 (.pointer x43)) (λx44=>opC C3 zA za (zD 9 (.pointer x45)) (λx46=>opC C3 zA za (zD 9 (.pointer x47)) (λx48=>opC C3 zA zG.v (QO 72 [(0,(.string x46)),(1,(.int .u64 1)),(2,(.string x48))].toArray) (λx49=>opE zA Sl.v (zr 67 1 [(0,(zG.v x49))].toArray) w (λx50 w=>C3 w/\(opE zA Sl.v (Builtin.append_ #[67,67] 67 [(Sl.v x44),(Sl.v x50)].toArray) w (λx51 w=>C3 w/\(QU (.pointer x14)/\(opC C3 zA zC (zN 87 (.pointer x14) 0) (λx53=>opC C3 zA zC (zN 69 (.pointer x53) 0) (λx54=>opU zA (zJ 67 (.pointer x54) (Sl.v x51)) w (λw=>(Kl1 (zB .i64 (x21+1)) w))))))))))))))))))))))
def zFl (x0:Sl) (Ret:(Option Addr)->Int->World->Prop) (x14:Option Addr) (x21:Int) (w:World) (Kl1:Int->World->Prop):Prop:=
 ((x21<(x0.len:Int))->(opE zA zC (zF 22 (Sl.v x0) (.int .i64 x21)) w (λx24 w=>opE zA zL.v (zD 66 (.pointer x24)) w (λx25 w=>opE zA zC (zh 66 true (.tuple #[])) w (λx6 w=>opU zA (zJ 66 (.pointer x6) (zL.v x25)) w (λw=>((0<x21)->(opB zA zC (zF 22 (Sl.v x0) (.int .i64 (zB .i64 (x21 - 1)))) w (λx32=>opB zA zC (zN 66 (.pointer x32) 0) w (λx33=>opB zA za (zD 9 (.pointer x33)) w (λx34=>opB zA zC (zN 66 (.pointer x6) 0) w (λx35=>opB zA za (zD 9 (.pointer x35)) w (λx36=>zD6 Ret x14 x21 Kl1 x6 (!sLt x34 x36) w)))))))/\(¬ (0<x21)->(zD6 Ret x14 x21 Kl1 x6 false w))))))))/\(¬ (x21<(x0.len:Int))->(Ret x14 0 w))
def zI8 (x0:Sl) (w:World) (Ret:(Option Addr)->Int->World->Prop):Prop:=
 ((4096<(x0.len:Int))->(Ret none 3 w))/\(¬ (4096<(x0.len:Int))->(Cl zA 33 [(Sl.v x0),(.func (.func 34) #[] #[])].toArray w (λe w=>∃ (r:Bool),e=.returned (.bool r)/\((r=true->(Ret none 4 w))/\(r=false->(opE zA Value.map (Instr.makeMap 85 none) w (λx12 w=>opE zA zCK.v (QO 87 [(1,(.int .u64 1)),(3,(.map x12))].toArray) w (λx13 w=>opE zA zC (Instr.box 87 (zCK.v x13)) w (λx14 w=>QU (.pointer x14)/\(opE zA zC (zN 87 (.pointer x14) 0) w (λx17 w=>opE zA zC (zN 69 (.pointer x17) 1) w (λx18 w=>opU zA (zJ 37 (.pointer x18) (.int .u64 1)) w (λw=>∃ (I:Int->World->Prop) (μ:Int->World->Nat),I 0 w/\∀ (x21:Int) w,I x21 w->zFl x0 Ret x14 x21 w (λx21' w'=>I x21' w'/\μ x21' w'<μ x21 w))))))))))))))
set_option maxRecDepth 100000 in
theorem zMl (x0:Sl) (w:World) (Ret:(Option Addr)->Int->World->Prop) (H:zI8 x0 w Ret):Cl zA 11 [(Sl.v x0)].toArray w (λe w'=>∃ (r0:Option Addr) (r1:Int),e=.returned (.tuple [(.pointer r0),(.int .i64 r1)].toArray)/\Ret r0 r1 w'):=by
 unfold zI8 at H
 refine zk 57 (zipE 0 [(Sl.v x0)]) Tryz.func11 rfl rfl (by rfl) rfl ?_
 intro a g
 replace g:Sat [] 57 [(0,(Sl.v x0))] a:=g
 refine zK (zE (g.as_ rfl λ_ g=>g.as_ rfl λ_ g=>zM (tn (zK (zK (zE (g.mv rfl λ_ g=>g.purR (λw=>Z7 g Tryz.underlying22 rfl) λ_ g=>g.pur (zBT g rfl rfl) λ_ g=>zM (tn (zb g rfl (λhc=>?_) (λhc=>?_))))))))))
 ·replace H:=H.1 hc
  exact zK (zE (g.as_ rfl λ_ g=>g.as_ rfl λ_ g=>zM (tn (zf (tr (Zg g rfl rfl rfl ⟨_,_,rfl,H⟩))))))
 ·replace H:=H.2 hc
  refine zX (tn (zK (zK (zE (g.mv rfl λ_ g=>g.call (zY g zQr rfl rfl) H λe w H=>?_)))))
  obtain ⟨r,rfl,H⟩:=H
  refine ⟨_,rfl,λ_ g=>(zM (tn (ze g rfl (λhc=>?_) (λhc=>?_))))⟩
  ·replace H:=H.1 hc
   exact zK (zE (g.as_ rfl λ_ g=>g.as_ rfl λ_ g=>zM (tn (zf (tr (Zg g rfl rfl rfl ⟨_,_,rfl,H⟩))))))
  ·replace H:=H.2 hc
   refine zX (tn (zK (zE (g.op (zJH) H λx12 w a H g=>g.op (zAv g rfl) H λx13 w a H g=>g.op (zBN g rfl) H λx14 w a H g=>g.as_ rfl λ_ g=>zM (tn (zK (zE (g.mv rfl λ_ g=>g.pur (zd g rfl H.1) λ_ g=>?_))))))))
   replace H:=H.2
   refine g.op (zR g rfl) H λx17 w a H g=>g.op (zR g rfl) H λx18 w a H g=>g.opu (zT g rfl rfl) H λw a H g=>zM (tn (zK (zK (zE (g.mv rfl λ_ g=>g.purR (λw=>Z7 g Tryz.underlying22 rfl) λ_ g=>g.mv rfl λ_ g=>zM (tn (zW ?_)))))))
   obtain ⟨I_l1,μ_l1,h0,hb⟩:=H
   refine yG (ds:=[]) (N:=57) (σ:=Int) (λs=>[(21,(.int .i64 s)),(0,(Sl.v x0)),(4,(.pointer x14)),(19,(Sl.v x0)),(20,(.int .i64 (x0.len:Int)))]) (λs w=>I_l1 s w) (λs w=>μ_l1 s w) 0 h0 (g.wk) ?_
   intro x21 w a hI g
   try dsimp only at hI g
   obtain ⟨Kl1,hK_l1⟩:∃ K:Int->World->Prop,K=(λx21' w'=>I_l1 x21' w'/\μ_l1 x21' w'<μ_l1 x21 w):=⟨_,rfl⟩
   have H:zFl x0 Ret x14 x21 w Kl1:=by rw [hK_l1];exact hb x21 w hI
   clear hb h0 hI
   unfold zFl at H
   refine zK (zE (g.pur (yh g rfl rfl) λ_ g=>zM (tn (zK (zb g rfl (λhc=>?_) (λhc=>?_))))))
   ·replace H:=H.1 hc
    refine zX (tn (zK (zW (zK (zE (g.mv rfl λ_ g=>g.op (zH g rfl rfl) H λx24 w a H g=>g.op (zO g rfl) H λx25 w a H g=>g.op (YJ) H λx6 w a H g=>g.as_ rfl λ_ g=>g.opu (zT g rfl rfl) H λw a H g=>zM (tn (zK (zK (QP (by kernel_rfl) (by kernel_rfl) (g.qm rfl λ_ g=>g.qpur (zBT g rfl rfl) λ_ g=>g.qm rfl λ_ g=>WQ.join (ds:=[]) (N:=57) (σ:=Bool) (λs=>[(38,(.bool s)),(0,(Sl.v x0)),(4,(.pointer x14)),(6,(.pointer x6)),(19,(Sl.v x0)),(20,(.int .i64 (x0.len:Int))),(21,(.int .i64 x21))]) (λs=>zD6 Ret x14 x21 Kl1 x6 s w) 10 ?_ (λhr2=>?_))))))))))))
    ·intro x38 a H g
     try dsimp only at H g
     unfold zD6 at H
     refine QQ (λw hB=>?_)
     replace H:=H w hB
     refine (tn (ze g rfl (λhc=>?_) (λhc=>?_)))
     ·replace H:=H.1 hc
      exact zK (zE (g.as_ rfl λ_ g=>g.as_ rfl λ_ g=>zM (tn (zf (tr (br (tr (tr (br (tr (Zg g rfl rfl rfl ⟨_,_,rfl,H⟩)))))))))))
     ·replace H:=H.2 hc
      refine zX (tn (zNM 16 H 17 (λC3 w hC0 H=>g.kp 0 rfl hC0 (Qd (zQ g rfl)) λ_ g=>g.kp 1 rfl hC0 (Qd (zQ g rfl)) λ_ g=>g.kp 2 rfl hC0 (Qd (zd g rfl H.1)) λ_ g=>?_)))
      replace H:=H.2
      refine g.ko 3 rfl hC0 (zR g rfl) H λx42 a H g=>g.ko 4 rfl hC0 (zR g rfl) H λx43 a H g=>g.ko 6 rfl hC0 (zR g rfl) H λx45 a H g=>g.ko 8 rfl hC0 (zR g rfl) H λx47 a H g=>g.ko 5 rfl hC0 (zO g rfl) H λx44 a H g=>g.ko 7 rfl hC0 (zO g rfl) H λx46 a H g=>g.ko 9 rfl hC0 (zO g rfl) H λx48 a H g=>g.ko 10 rfl hC0 (zAv g rfl) H λx49 a H g=>WK.on 11 rfl ?_
      intro K hK
      refine g.wop (Zt g rfl) H λx50 w a H g=>hK _ _ ⟨H.1,?_⟩
      have hC1:=H.1
      replace H:=H.2
      refine WK.on 12 rfl ?_
      intro K hK
      refine g.wop (zEd g rfl) H λx51 w a H g=>hK _ _ ⟨H.1,?_⟩
      have hC2:=H.1
      replace H:=H.2
      refine g.kp 13 rfl hC2 (Qd (zd g rfl H.1)) λ_ g=>?_
      replace H:=H.2
      refine g.ko 14 rfl hC2 (zR g rfl) H λx53 a H g=>g.ko 15 rfl hC2 (zR g rfl) H λx54 a H g=>WK.la 16 rfl ?_
      intro K hK
      refine g.wopu (zT g rfl rfl) H λw a H g=>hK _ _ (WK.nil (by kernel_rfl) ((bn (tn (zE (g.pur (zm g rfl rfl) λ_ g=>g.mv rfl λ_ g=>?_))))))
      rw [hK_l1] at H
      exact zM (tn ⟨(zB .i64 (x21+1)),g.wk,H⟩)
    ·rcases Classical.em ((0<x21)) with hbr2|hbr2
     ·replace H:=H.1 hbr2
      replace g:=g.bool (b:=true) (t:=28) rfl (decide_eq_true hbr2)
      exact g.qon (by rfl) (by rfl) (g.qm rfl λ_ g=>g.qon (by rfl) (by rfl) (g.qm rfl λ_ g=>g.qon (by rfl) (by rfl) (g.qpur (zu g rfl rfl) λ_ g=>g.qon (by rfl) (by rfl) (g.qop (zH g rfl rfl) H λx32 a H g=>g.qon (by rfl) (by rfl) (g.qop (zR g rfl) H λx33 a H g=>g.qon (by rfl) (by rfl) (g.qop (zO g rfl) H λx34 a H g=>g.qon (by rfl) (by rfl) (g.qop (zR g rfl) H λx35 a H g=>g.qon (by rfl) (by rfl) (g.qop (zO g rfl) H λx36 a H g=>g.qon (by rfl) (by rfl) (g.qpur (zN3 g rfl rfl) λ_ g=>g.qpur (zo g rfl rfl) λ_ g=>hr2 (!sLt x34 x36) _ H (g.wk))))))))))
     ·replace H:=H.2 hbr2
      replace g:=g.bool (b:=false) (t:=28) rfl (decide_eq_false hbr2)
      exact g.qoff (by rfl) (by rfl) (by decide) (λ_ g=>g.qoff (by rfl) (by rfl) (by decide) (λ_ g=>g.qoff (by rfl) (by rfl) (by decide) (λ_ g=>g.qoff (by rfl) (by rfl) (by decide) (λ_ g=>g.qoff (by rfl) (by rfl) (by decide) (λ_ g=>g.qoff (by rfl) (by rfl) (by decide) (λ_ g=>g.qoff (by rfl) (by rfl) (by decide) (λ_ g=>g.qoff (by rfl) (by rfl) (by decide) (λ_ g=>g.qoff (by rfl) (by rfl) (by decide) (λ_ g=>g.qpur (zn g rfl rfl) λ_ g=>hr2 false _ H (g.wk))))))))))
   ·replace H:=H.2 hc
    exact z9 (te (te (be (tn (zK (zE (g.mv rfl λ_ g=>g.as_ rfl λ_ g=>g.as_ rfl λ_ g=>zM (tn (zf (Zg g rfl rfl rfl ⟨_,_,rfl,H⟩))))))))))
def zDk (Ret:Bool->World->Prop) (x12:Bool) (w:World):Prop:=
 Ret x12 w
def zHs (x0:zL) (w:World) (Ret:Bool->World->Prop):Prop:=
 opE zA zC (Instr.box 66 (zL.v x0)) w (λx1 w=>opE zA zC (zN 66 (.pointer x1) 0) w (λx3 w=>opE zA za (zD 9 (.pointer x3)) w (λx4 w=>((256<(x4.size:Int))->(zDk Ret true w))/\(¬ (256<(x4.size:Int))->(opE zA zC (zN 66 (.pointer x1) 1) w (λx8 w=>opE zA za (zD 9 (.pointer x8)) w (λx9 w=>zDk Ret (decide (512<(x9.size:Int))) w)))))))
set_option maxRecDepth 100000 in
theorem zLa (x0:zL) (w:World) (Ret:Bool->World->Prop) (H:zHs x0 w Ret):Cl zA 34 [(zL.v x0)].toArray w (λe w'=>∃ (r0:Bool),e=.returned (.bool r0)/\Ret r0 w'):=by
 unfold zHs at H
 refine zk 13 (zipE 0 [(zL.v x0)]) Tryz.func34 rfl rfl (by rfl) rfl ?_
 intro a g
 replace g:Sat [] 13 [(0,(zL.v x0))] a:=g
 refine zK (zE (g.op (zBN g rfl) H λx1 w a H g=>g.as_ rfl λ_ g=>zM (tn (zK (zE (g.op (zR g rfl) H λx3 w a H g=>g.op (zO g rfl) H λx4 w a H g=>g.purR (λw=>zHA g Tryz.underlying9 rfl) λ_ g=>g.pur (zBT g rfl rfl) λ_ g=>g.mv rfl λ_ g=>WL.join (ds:=[]) (N:=13) (σ:=Bool) (λs=>[(12,(.bool s))]) (λs w=>zDk Ret s w) 5 ?_ (λhr1=>?_)))))))
 ·intro x12 w a H g
  try dsimp only at H g
  unfold zDk at H
  exact g.as_ rfl λ_ g=>zM (tn (zf (zv g rfl rfl ⟨_,rfl,H⟩)))
 ·rcases Classical.em ((256<(x4.size:Int))) with hbr1|hbr1
  ·replace H:=H.1 hbr1
   replace g:=g.bool (b:=true) (t:=7) rfl (decide_eq_true hbr1)
   exact g.off (by rfl) (by rfl) (by decide) (λ_ g=>g.off (by rfl) (by rfl) (by decide) (λ_ g=>g.off (by rfl) (by rfl) (by decide) (λ_ g=>g.off (by rfl) (by rfl) (by decide) (λ_ g=>g.pur (zo g rfl rfl) λ_ g=>hr1 true _ _ H (g.wk)))))
  ·replace H:=H.2 hbr1
   replace g:=g.bool (b:=false) (t:=7) rfl (decide_eq_false hbr1)
   exact g.on (by rfl) (by rfl) (g.op (zR g rfl) H λx8 w a H g=>g.on (by rfl) (by rfl) (g.op (zO g rfl) H λx9 w a H g=>g.on (by rfl) (by rfl) (g.purR (λw=>zHA g Tryz.underlying9 rfl) λ_ g=>g.on (by rfl) (by rfl) (g.pur (zBT g rfl rfl) λ_ g=>g.pur (zn g rfl rfl) λ_ g=>hr1 (decide (512<(x9.size:Int))) _ _ H (g.wk)))))
end Go.Proofs.YtealcoghiaeiiaaGreat.VG
set_option linter.unusedVariables false
namespace Go.Proofs.YtealcoghiaeiiaaGreat.VG
open Go.VB Go.Proofs Go.RowKit
def verP (p:Pai):Ver:=⟨p.Key,1,p.Val,false⟩
def newS (l:List Pai):St:=⟨l.map verP,1,1,0,λ_=>none⟩
def zHI (p:Pai):Bool:=decide (256<(p.Key.size:Int))||decide (512<(p.Val.size:Int))
def zGM (l:List Pai) (n:Nat):Prop:=∀ j x y,j+1<n->l[j]?=some x->l[j+1]?=some y->sLt x.Key y.Key=true
theorem zPB (p:Pai) (w:World) {k:Bool->World->Prop} (H:∀ w',Bel w w'->k (zHI p) w'):Cl zA zI1 [zL.v p].toArray w (λe w'=>∃ r0:Bool,e=.returned (.bool r0)/\k r0 w'):=by
 refine zLa p w k ?_
 unfold zHs zDk
 refine zAb (cs:=p.cells) rfl λB w1 b1 hX _=>?_
 have h:=H w1 b1
 unfold zHI at h
 refine yJ zBE zp hX.at p.Key rfl ⟨λhc=>?_,λhc=>?_⟩
 ·rw [decide_eq_true hc] at h;exact h
 ·rw [decide_eq_false hc] at h
  exact yJ zGo zp hX.at p.Val rfl h
abbrev zJK (sl:Sl) (low:Int) (mb:Nat):List Value:=[Sl.v sl,.int .u64 low,.int .u64 1,.int .i64 0,.map (some mb)]
theorem zO5 {w:World} {x:Sl} {l:List Pai} (hd:zJT w x l) {k:Option Addr->Int->World->Prop}
  (H0:4096<l.length->k none 3 w)
  (H1:l.length<=4096->l.any zHI=true->∀ w',Bel w w'->k none 4 w')
  (H2:l.length<=4096->l.any zHI=false->¬ zGM l l.length->∀ w',Bel w w'->k none 2 w')
  (H3:l.length<=4096->l.any zHI=false->zGM l l.length->∀ b ρ w',Bel w w'->Mgr ρ w' b (newS l)->(∀ k,k<w.heap.size->ρ k=none)->k (ptrA b) 0 w'):
  Cl zA zJp [Sl.v x].toArray w (λe w'=>∃ (r0:Option Addr) (r1:Int),e=.returned (.tuple [.pointer r0,.int .i64 r1].toArray)/\k r0 r1 w'):=by
 have dbig:=hd.big;have dcap:=hd.cap;have dlen:=hd.len
 refine zMl x w k ?_
 unfold zI8
 refine ⟨λhc=>H0 (by omega),λhc=>?_⟩
 have hl:l.length<=4096:=by omega
 refine zJa hd (p:=zHI) (λd _ w' k' hb hk=>.inl ⟨zI1,[],[],rfl,zQy,zPB d w' hk⟩) λw1 b1=>⟨λhc=>H1 hl hc w1 b1,λhno=>?_⟩
 refine zMm (ek:=zU .i64) (ev:=zC) λhM=>?_
 have hB2:=Bel.alloc w1 (.map #[] 0)
 have s2:=size_alloc' w1 (.map #[] 0)
 generalize hmb:w1.heap.size=mb at hM s2 ⊢
 generalize w1.alloc (.map #[] 0)=w2 at hM hB2 s2 ⊢
 refine ⟨⟨⟨Sl.none,0⟩,1,0,some mb⟩,w2,by kernel_rfl,?_⟩
 refine zAb (cs:=zJK Sl.none 0 mb) rfl λB w3 b3 hR hB0=>⟨trivial,?_⟩
 have hmb2:mb<w2.heap.size:=by omega
 refine ⟨_,w3,xV _ _,?_⟩
 refine ⟨_,w3,zAZ _ _,?_⟩
 rw [zF8]
 refine zH1 (off:=0+1) yF hR rfl (by simp) rfl λw4 hR4 g4=>?_
 replace hR4:Row w4 B (zJK Sl.none 1 mb) Zf:=hR4
 have s3:=b3.le
 have s4:=g4.size
 have hBm:B≠mb:=by omega
 have hM4:=(hM.bel b3).grown g4 (by simpa using hBm)
 have b12:=b1.trans hB2
 have s12:=b12.le
 have b04:Bel w w4:=(b12.trans b3).grown g4 λr hr=>by cases hr;omega
 have hBl:B<w4.heap.size:=hR4.lt
 refine ⟨λi W=>∃ (n:Nat) (sl:Sl),i=(n:Int)/\n<=l.length/\Row W B (zJK sl 1 mb) Zf/\ZY w4.heap.size W sl ((l.take n).map verP)/\Zk (zU .i64) zC W mb (λ_=>none)/\Bel w W/\w4.heap.size<=W.heap.size/\zGM l n,λi _=>(x.len - i).toNat,
  ⟨0,Sl.none,rfl,by omega,hR4,OwnS.nil _ _ _ _ _,hM4,b04,zV _,λj _ _ h=>by omega⟩,?_⟩
 rintro i W ⟨n,sl,rfl,hn,hRW,hOW,hMW,hbW,hsW,hrise⟩
 unfold zFl
 refine ⟨λhc=>?_,λhc=>?_⟩
 ·obtain ⟨p,hp⟩:=getE (l:=l) (n:=n) (by omega)
  refine zFX (hd.bel hbW) ZI zAn (by omega) (x:=p) (by simpa using hp) λad hA=>?_
  refine zBb zAM p rfl hA rfl ?_
  refine zCs zIh rfl zAM (cs:=p.cells) rfl rfl rfl λX W1 b5 hX hX0=>?_
  have J:∀ (c:Bool),(c=true->¬ zGM l l.length)->(c=false->zGM l (n+1))->zD6 k (ptrA B) (n:Int) (λx21' w'=>(∃ (n:Nat) (sl:Sl),x21'=(n:Int)/\n<=l.length/\Row w' B (zJK sl 1 mb) Zf/\ZY w4.heap.size w' sl ((l.take n).map verP)/\Zk (zU .i64) zC w' mb (λ_=>none)/\Bel w w'/\w4.heap.size<=w'.heap.size/\zGM l n)/\(x.len - x21').toNat<(x.len - (n:Int)).toNat) (ptrA X) c W1:=by
   intro c hc1 hc0
   unfold zD6
   intro W2 b6
   refine ⟨λh1=>H2 hl hno (hc1 h1) W2 ((hbW.trans b5).trans b6),λh1=>?_⟩
   have hR2:=(hRW.bel b5).bel b6
   have hX2:=hX.bel b6
   have b56:=b5.trans b6
   refine ⟨λW'=>Row W' B (zJK sl 1 mb) Zf/\Row W' X p.cells zA3,λW3 b7=>⟨⟨hR2.bel b7,hX2.bel b7⟩,trivial,?_⟩⟩
   refine zFf xV ?_
   refine zFf yC ?_
   refine zFf zBE ?_
   refine zFf zGo ?_
   refine zC5 yB sl (λW hW=>by rw [zF8];exact hW.1.at.fld rfl) ?_
   refine zC5 zp p.Key (λW hW=>hW.2.at.fld rfl) ?_
   refine zC5 zp p.Val (λW hW=>hW.2.at.fld rfl) ?_
   refine ⟨verP p,λW hW=>by kernel_rfl,?_⟩
   refine ⟨_,_,zGc (verP p) W3,?_⟩
   have b8:=Bel.alloc W3 (.cells (verP p).cells.toArray yE)
   have hlit:zEg (W3.alloc (.cells (verP p).cells.toArray yE)) ⟨some ⟨W3.heap.size,0,none⟩,1,1⟩ [verP p]:=by
    have:=Rd.lit (c:=zG.cells) (n:=4) (λ_=>rfl) [verP p] (by simp) W3 yE
    simpa using this
   have s8:=size_alloc' W3 (.cells (verP p).cells.toArray yE)
   generalize W3.alloc (.cells (verP p).cells.toArray yE)=W4 at b8 hlit s8 ⊢
   have b58:=(b56.trans b7).trans b8
   have hR8:=(hR2.bel b7).bel b8
   have hX8:=(hX2.bel b7).bel b8
   refine ⟨⟨hR8,hX8⟩,?_⟩
   have hO8:=hOW.bel b58
   have hs8:=b58.le
   refine zM8 (w0:=w) hO8 hlit (hbW.trans b58) b04.le (by omega) (by simp;omega) λsl' W5 hO9 b9 g9=>?_
   have hne:(Sl.v sl).ownBlock≠some B:=λe=>by have:=hO8.lo e;omega
   have hneX:(Sl.v sl).ownBlock≠some X:=λe=>by have:=hOW.lt e;omega
   have hnem:(Sl.v sl).ownBlock≠some mb:=λe=>by have:=hO8.lo e;omega
   have hR9:=hR8.grown g9 hne
   refine ⟨⟨hR9,hX8.grown g9 hneX⟩,trivial,?_⟩
   refine zFf xV ?_
   refine zFf yC ?_
   rw [zF8]
   refine zH1 (off:=0+0) yB hR9 (by cases sl' with|mk a l c=>cases a<;>rfl) (by simp) (by cases sl' with|mk a l c=>cases a<;>rfl) λW6 hR10 g10=>?_
   replace hR10:Row W6 B (zJK sl' 1 mb) Zf:=hR10
   rw [wr64 (by omega) (by omega)]
   have hlast:(l.take (n+1)).map verP=(l.take n).map verP++[verP p]:=by rw [zCy hp,List.map_append];rfl
   refine ⟨⟨n+1,sl',by omega,by omega,hR10,?_,((hMW.bel b58).grown g9 hnem).grown g10 (by simpa using hBm),b9.grown g10 λr hr=>by cases hr;omega,by have:=g9.size;have:=g10.size;omega,hc0 h1⟩,by omega⟩
   rw [hlast]
   refine hO9.kept g10 (.inr λe=>?_)
   have:=hO9.lo e;omega
  refine ⟨λh0=>?_,λh0=>?_⟩
  ·obtain ⟨q,hq⟩:=getE (l:=l) (n:=n - 1) (by omega)
   have hdW:=(hd.bel hbW).bel b5
   rw [wr64 (by omega) (by omega)]
   refine zH3 hdW ZI zAn (by omega) (x:=q) (by rw [show ((n:Int) - 1).toNat=n - 1 from by omega];exact hq) λad hA=>?_
   refine zGL zBE zp hA q.Key rfl ?_
   refine zGL zBE zp hX.at p.Key rfl ?_
   refine J _ (λh1 h2=>?_) λh1=>?_
   ·have:=h2 (n - 1) q p (by omega) hq (by rw [show n - 1+1=n from by omega];exact hp)
    rw [this] at h1;cases h1
   ·intro j y z hj hy hz
    by_cases hjn:j+1<n
    ·exact hrise j y z hjn hy hz
    ·obtain rfl:j=n - 1:=by omega
     rw [hq] at hy;cases hy
     rw [show n - 1+1=n from by omega,hp] at hz;cases hz
     simpa using h1
  ·refine J false (λh=>(nomatch h)) λ_ j y z hj hy hz=>by omega
 ·obtain rfl:n=l.length:=by omega
  rw [List.take_length] at hOW
  have hold:∀ q,q<w.heap.size->q≠B/\q≠mb/\(Sl.v sl).ownBlock≠some q:=λq hq=>by
   have:=b1.le
   have:=b04.le
   exact ⟨by omega,by omega,λe=>by have:=hOW.lo e;omega⟩
  refine H3 hl hno hrise B (λq=>if q=B then some .mg else if q=mb then some .om else if (Sl.v sl).ownBlock=some q then some .ve else none) W hbW ⟨sl,mb,λ_=>⟨0,0,Sl.none⟩,?_⟩ λq hq=>?_
  ·exact {
    row:=hRW
    rmg:=if_pos rfl
    vers:=ZY.rd hOW
    rve:=λq hq=>by
     have:=hOW.lo hq
     rw [if_neg (by omega),if_neg (by omega),if_pos hq]
    mp:=hMW
    rom:=by rw [if_neg hBm.symm,if_pos rfl]
    tx:=λn t ht=>by cases ht
    lt:=λq hq=>by
     split at hq
     ·rename_i e;subst e;exact hRW.lt
     ·split at hq
      ·rename_i e;subst e;exact hMW.lt
      ·split at hq
       ·rename_i e;exact hOW.lt e
       ·exact absurd rfl hq}
  ·obtain ⟨h1,h2,h3⟩:=hold q hq
   rw [if_neg h1,if_neg h2,if_neg h3]
end Go.Proofs.YtealcoghiaeiiaaGreat.VG
set_option linter.unusedVariables false
namespace Go.Proofs.YtealcoghiaeiiaaGreat.VG
open Go.VB Go.Proofs Go.RowKit
theorem zQY {w:World} {x y:Wri} {o1 o2:Operand} {k:Bool->Prop} (H:∀ b:Bool,(b=true↔¬ x=y)->k b):
  opB zA xh (do eqGuard .neq Zs o1 o2 (zI.v x) (zI.v y);binOp .neq Zs (zI.v x) (zI.v y)) w k:=by
 obtain ⟨r,h1,h2⟩:=zKQ x y o1 o2
 exact ⟨r,λw' _=>h1 w',H r h2⟩
theorem zKH {w:World} {x0 x1:Sl} {l m:List Wri} (h:zIK w x0 l) (h':zIK w x1 m) {k:Bool->World->Prop} (H:∀ r w',(r=true↔l=m)->Bel w w'->k r w'):
  Cl zA zGU [Sl.v x0,Sl.v x1].toArray w (λe w'=>∃ r0:Bool,e=.returned (.bool r0)/\k r0 w'):=by
 refine zGV x0 x1 w k ?_
 have hbig:=h.big;have hcap:=h.cap;have hlen:=h.len;have hlen':=h'.len
 unfold zCL
 refine ⟨λhc=>H false w ⟨λh=>(nomatch h),λh=>?_⟩ (Bel.refl _),λhc=>?_⟩
 ·subst h;omega
 have hc':(x0.len:Int)=x1.len:=Classical.not_not.1 hc
 refine ⟨λx w1=>∃ n:Nat,x=(n:Int)/\n<=l.length/\Bel w w1/\l.take n=m.take n,λx _=>(x0.len - x).toNat,⟨0,rfl,by omega,Bel.refl _,rfl⟩,?_⟩
 rintro x w1 ⟨n,rfl,hn,hb,hq⟩
 unfold zAP
 refine ⟨λhc=>?_,λhc=>?_⟩
 ·obtain ⟨e,he⟩:∃ e,l[n]?=some e:=⟨l[n]'(by omega),by simp⟩
  obtain ⟨f,hf⟩:∃ f,m[n]?=some f:=⟨m[n]'(by omega),by simp⟩
  refine zH3 (h.bel hb) zBa zCw (by omega) (x:=e) (by simpa using he) λad hA=>?_
  refine zHW YO e rfl hA rfl ?_
  refine zH3 (h'.bel hb) zBa zCw (by omega) (x:=f) (by simpa using hf) λad' hA'=>?_
  refine zHW YO f rfl hA' rfl ?_
  refine zQY λb hbb=>?_
  intro w2 hb2
  refine ⟨λht=>H false w2 ⟨λh=>(nomatch h),λh=>?_⟩ (hb.trans hb2),λhf0=>?_⟩
  ·subst h;rw [he] at hf;exact absurd (Option.some.inj hf) (hbb.1 ht)
  ·have hef:e=f:=Classical.not_not.1 λh=>by rw [hbb.2 h] at hf0;cases hf0
   subst hef
   rw [wr64 (by omega) (by omega)]
   exact ⟨⟨n+1,by omega,by omega,hb.trans hb2,zI5 hq he hf⟩,by dsimp only;omega⟩
 ·obtain rfl:n=l.length:=by omega
  refine H true w1 ⟨λ_=>?_,λ_=>rfl⟩ hb
  rw [List.take_length,List.take_of_length_le (by omega)] at hq
  exact hq
theorem zRS (a b:Bool) {w:World} {o1 o2:Operand} {k:Bool->World->Prop} (H:k (decide (a=b)) w):opE zA xh (do eqGuard .eql zNB o1 o2 (.bool a) (.bool b);binOp .eql zNB (.bool a) (.bool b)) w k:=
 ⟨decide (a=b),w,by cases a<;>cases b<;>kernel_rfl,H⟩
structure Ans where
 why:Int
 tx:Int
 val:ByteArray
 is:Bool
 pairs:List Pai
 done:List Wri
 time:Int
def zHx (w:World) (x:zc) (a:Ans):Prop:=x.Why=a.why/\x.Tx=a.tx/\x.Val=a.val/\x.Is=a.is/\zJT w x.Pairs a.pairs/\zIK w x.Done a.done/\x.Time=a.time
theorem zHx.bel {w w':World} {x:zc} {a:Ans} (h:zHx w x a) (hb:Bel w w'):zHx w' x a:=⟨h.1,h.2.1,h.2.2.1,h.2.2.2.1,h.2.2.2.2.1.bel hb,h.2.2.2.2.2.1.bel hb,h.2.2.2.2.2.2⟩
theorem zO0 {w:World} {x y:zc} {a b:Ans} (h:zHx w x a) (h':zHx w y b) {k:Bool->World->Prop} (H:∀ r w',(r=true↔a=b)->Bel w w'->k r w'):
  Cl zA zIG [zc.v x,zc.v y].toArray w (λe w'=>∃ r0:Bool,e=.returned (.bool r0)/\k r0 w'):=by
 obtain ⟨e1,e2,e3,e4,e5,e6,e7⟩:=h
 obtain ⟨f1,f2,f3,f4,f5,f6,f7⟩:=h'
 refine zIC x y w k ?_
 unfold zE3
 refine zAb (cs:=x.cells) rfl λB w1 b1 hX _=>?_
 refine zAb (cs:=y.cells) rfl λC w2 b2 hY _=>?_
 replace hX:=hX.bel b2
 have b02:=b1.trans b2
 have j6:∀ (c:Bool) W,Bel w2 W->(c=true↔a=b)->zBC k c W:=λc W hb hc=>H c W hc (b02.trans hb)
 have j5:∀ (c:Bool) W,Bel w2 W->(c=true↔a.why=b.why/\a.tx=b.tx/\a.val=b.val/\a.is=b.is/\a.pairs=b.pairs/\a.done=b.done)->zAB k (ptrA B) (ptrA C) c W:=by
  intro c W hb hc
  unfold zAB
  refine ⟨λh=>?_,λh=>j6 false W hb ⟨λh=>(nomatch h),λe=>?_⟩⟩
  ·refine yJ zDO yF (hX.bel hb).at x.Time rfl ?_
   refine yJ zDO yF (hY.bel hb).at y.Time rfl ?_
   obtain ⟨g1,g2,g3,g4,g5,g6⟩:=hc.1 h
   refine j6 _ W hb ⟨λh=>?_,λe=>?_⟩
   ·have:=of_decide_eq_true h
    cases a;cases b;simp_all
   ·subst e;exact decide_eq_true (e7.trans f7.symm)
  ·subst e;have:=hc.2 ⟨rfl,rfl,rfl,rfl,rfl,rfl⟩;rw [h] at this;cases this
 have j4:∀ (c:Bool) W,Bel w2 W->(c=true↔a.why=b.why/\a.tx=b.tx/\a.val=b.val/\a.is=b.is/\a.pairs=b.pairs)->zAE k (ptrA B) (ptrA C) c W:=by
  intro c W hb hc
  unfold zAE
  refine ⟨λh=>?_,λh=>j5 false W hb ⟨λh=>(nomatch h),λe=>?_⟩⟩
  ·refine yJ zDG zBz (hX.bel hb).at x.Done rfl ?_
   refine yJ zDG zBz (hY.bel hb).at y.Done rfl ?_
   obtain ⟨g1,g2,g3,g4,g5⟩:=hc.1 h
   refine zKH (e6.bel (b02.trans hb)) (f6.bel (b02.trans hb)) λr w' hr hb'=>j5 r w' (hb.trans hb') ⟨λh=>⟨g1,g2,g3,g4,g5,hr.1 h⟩,λe=>hr.2 e.2.2.2.2.2⟩
  ·have:=hc.2 ⟨e.1,e.2.1,e.2.2.1,e.2.2.2.1,e.2.2.2.2.1⟩;rw [h] at this;cases this
 have j3:∀ (c:Bool) W,Bel w2 W->(c=true↔a.why=b.why/\a.tx=b.tx/\a.val=b.val/\a.is=b.is)->zAC k (ptrA B) (ptrA C) c W:=by
  intro c W hb hc
  unfold zAC
  refine ⟨λh=>?_,λh=>j4 false W hb ⟨λh=>(nomatch h),λe=>?_⟩⟩
  ·refine yJ zCd zCP (hX.bel hb).at x.Pairs rfl ?_
   refine yJ zCd zCP (hY.bel hb).at y.Pairs rfl ?_
   obtain ⟨g1,g2,g3,g4⟩:=hc.1 h
   refine zOG (e5.bel (b02.trans hb)) (f5.bel (b02.trans hb)) λr w' hr hb'=>j4 r w' (hb.trans hb') ⟨λh=>⟨g1,g2,g3,g4,hr.1 h⟩,λe=>hr.2 e.2.2.2.2⟩
  ·have:=hc.2 ⟨e.1,e.2.1,e.2.2.1,e.2.2.2.1⟩;rw [h] at this;cases this
 have j2:∀ (c:Bool) W,Bel w2 W->(c=true↔a.why=b.why/\a.tx=b.tx/\a.val=b.val)->Z9 k (ptrA B) (ptrA C) c W:=by
  intro c W hb hc
  unfold Z9
  refine ⟨λh=>?_,λh=>j3 false W hb ⟨λh=>(nomatch h),λe=>?_⟩⟩
  ·refine yJ zEQ zC1 (hX.bel hb).at x.Is rfl ?_
   refine yJ zEQ zC1 (hY.bel hb).at y.Is rfl ?_
   obtain ⟨g1,g2,g3⟩:=hc.1 h
   refine zRS _ _ (j3 _ W hb ⟨λh=>⟨g1,g2,g3,by rw [← e4,← f4];exact of_decide_eq_true h⟩,λe=>decide_eq_true (by rw [e4,f4];exact e.2.2.2)⟩)
  ·have:=hc.2 ⟨e.1,e.2.1,e.2.2.1⟩;rw [h] at this;cases this
 have j1:∀ (c:Bool) W,Bel w2 W->(c=true↔a.why=b.why/\a.tx=b.tx)->zAA k (ptrA B) (ptrA C) c W:=by
  intro c W hb hc
  unfold zAA
  refine ⟨λh=>?_,λh=>j2 false W hb ⟨λh=>(nomatch h),λe=>?_⟩⟩
  ·refine yJ zDj zp (hX.bel hb).at x.Val rfl ?_
   refine yJ zDj zp (hY.bel hb).at y.Val rfl ?_
   obtain ⟨g1,g2⟩:=hc.1 h
   refine j2 _ W hb ⟨λh=>⟨g1,g2,by rw [← e3,← f3];exact of_decide_eq_true h⟩,λe=>decide_eq_true (by rw [e3,f3];exact e.2.2)⟩
  ·have:=hc.2 ⟨e.1,e.2.1⟩;rw [h] at this;cases this
 refine yJ Yo zBK hX.at x.Why rfl ?_
 refine yJ Yo zBK hY.at y.Why rfl ?_
 refine ⟨λh=>?_,λh=>j1 false w2 (Bel.refl _) ⟨λh=>(nomatch h),λe=>absurd (by rw [e1,f1];exact e.1) h⟩⟩
 refine yJ zEP zAN hX.at x.Tx rfl ?_
 refine yJ zEP zAN hY.at y.Tx rfl ?_
 exact j1 _ w2 (Bel.refl _) ⟨λh2=>⟨by rw [← e1,← f1];exact h,by rw [← e2,← f2];exact of_decide_eq_true h2⟩,λe=>decide_eq_true (by rw [e2,f2];exact e.2)⟩
end Go.Proofs.YtealcoghiaeiiaaGreat.VG
set_option linter.unusedVariables false
set_option linter.unusedSimpArgs false
namespace Go.Proofs.YtealcoghiaeiiaaGreat.VG
open Go.VB Go.Proofs
def zAa (Ret:Bool->World->Prop) (x117:Bool) (w:World):Prop:=
 Ret x117 w
def zAY (Ret:Bool->World->Prop) (r:Option Addr) (x112:Bool) (w:World):Prop:=
 (x112=true->(Cl zA 31 [(.pointer r)].toArray w (λe w=>∃ (r_20:Int),e=.returned (.int .u64 r_20)/\(zAa Ret (decide (r_20=2)) w))))/\(x112=false->(zAa Ret false w))
def zAX (Ret:Bool->World->Prop) (r:Option Addr) (r_19:Int) (x108:Bool) (w:World):Prop:=
 (x108=true->(zAY Ret r (decide (r_19=10)) w))/\(x108=false->(zAY Ret r false w))
def zAg (Ret:Bool->World->Prop) (r:Option Addr) (r_16:Int) (r_19:Int) (x104:Bool) (w:World):Prop:=
 (x104=true->(zAX Ret r r_19 (decide (r_16=0)) w))/\(x104=false->(zAX Ret r r_19 false w))
def zAu (Ret:Bool->World->Prop) (r:Option Addr) (r_15:Int) (r_16:Int) (r_19:Int) (x100:Bool) (w:World):Prop:=
 (x100=true->(zAg Ret r r_16 r_19 (decide (r_15=2)) w))/\(x100=false->(zAg Ret r r_16 r_19 false w))
def zAf (Ret:Bool->World->Prop) (r:Option Addr) (r_14:Sl) (r_15:Int) (r_16:Int) (r_19:Int) (x94:Bool) (w:World):Prop:=
 (x94=true->(opE zA zI.v (QO 34 [(0,(.string (ByteArray.mk #[97]))),(1,(.string (ByteArray.mk #[50])))].toArray) w (λx97 w=>opE zA Sl.v (zr 30 1 [(0,(zI.v x97))].toArray) w (λx98 w=>Cl zA 28 [(Sl.v r_14),(Sl.v x98)].toArray w (λe w=>∃ (r_21:Bool),e=.returned (.bool r_21)/\(zAu Ret r r_15 r_16 r_19 r_21 w))))))/\(x94=false->(zAu Ret r r_15 r_16 r_19 false w))
def zAr (Ret:Bool->World->Prop) (r:Option Addr) (r_13:Int) (r_14:Sl) (r_15:Int) (r_16:Int) (r_19:Int) (x90:Bool) (w:World):Prop:=
 (x90=true->(zAf Ret r r_14 r_15 r_16 r_19 (decide (r_13=0)) w))/\(x90=false->(zAf Ret r r_14 r_15 r_16 r_19 false w))
def zAy (Ret:Bool->World->Prop) (r:Option Addr) (r_12:Int) (r_13:Int) (r_14:Sl) (r_15:Int) (r_16:Int) (r_19:Int) (x86:Bool) (w:World):Prop:=
 (x86=true->(zAr Ret r r_13 r_14 r_15 r_16 r_19 (decide (r_12=0)) w))/\(x86=false->(zAr Ret r r_13 r_14 r_15 r_16 r_19 false w))
def zAo (Ret:Bool->World->Prop) (r:Option Addr) (r_8:Int) (r_12:Int) (r_13:Int) (r_14:Sl) (r_15:Int) (r_16:Int) (r_19:Int) (x82:Bool) (w:World):Prop:=
 (x82=true->(zAy Ret r r_12 r_13 r_14 r_15 r_16 r_19 (decide (r_8=0)) w))/\(x82=false->(zAy Ret r r_12 r_13 r_14 r_15 r_16 r_19 false w))
def zAm (Ret:Bool->World->Prop) (r:Option Addr) (r_7:Bool) (r_8:Int) (r_12:Int) (r_13:Int) (r_14:Sl) (r_15:Int) (r_16:Int) (r_19:Int) (x79:Bool) (w:World):Prop:=
 (x79=true->(zAo Ret r r_8 r_12 r_13 r_14 r_15 r_16 r_19 r_7 w))/\(x79=false->(zAo Ret r r_8 r_12 r_13 r_14 r_15 r_16 r_19 false w))
def zAj (Ret:Bool->World->Prop) (r:Option Addr) (r_6:ByteArray) (r_7:Bool) (r_8:Int) (r_12:Int) (r_13:Int) (r_14:Sl) (r_15:Int) (r_16:Int) (r_19:Int) (x75:Bool) (w:World):Prop:=
 (x75=true->(zAm Ret r r_7 r_8 r_12 r_13 r_14 r_15 r_16 r_19 (decide (r_6=(ByteArray.mk #[49]))) w))/\(x75=false->(zAm Ret r r_7 r_8 r_12 r_13 r_14 r_15 r_16 r_19 false w))
def zAh (Ret:Bool->World->Prop) (r:Option Addr) (r_4:Int) (r_6:ByteArray) (r_7:Bool) (r_8:Int) (r_12:Int) (r_13:Int) (r_14:Sl) (r_15:Int) (r_16:Int) (r_19:Int) (x71:Bool) (w:World):Prop:=
 (x71=true->(zAj Ret r r_6 r_7 r_8 r_12 r_13 r_14 r_15 r_16 r_19 (decide (r_4=2)) w))/\(x71=false->(zAj Ret r r_6 r_7 r_8 r_12 r_13 r_14 r_15 r_16 r_19 false w))
def zER (w:World) (Ret:Bool->World->Prop):Prop:=
 opE zA zL.v (QO 66 [(0,(.string (ByteArray.mk #[97]))),(1,(.string (ByteArray.mk #[49])))].toArray) w (λx19 w=>opE zA Sl.v (zr 22 1 [(0,(zL.v x19))].toArray) w (λx20 w=>Cl zA 11 [(Sl.v x20)].toArray w (λe w=>∃ (r:Option Addr) (r_1:Int),e=.returned (.tuple [(.pointer r),(.int .i64 r_1)].toArray)/\(opE zA xh (do eqGuard .eql 26 (.tmp 24) (.const (.pointer none)) (.pointer r) (.pointer none);binOp .eql 26 (.pointer r) (.pointer none)) w (λx25 w=>(x25=true->(Ret false w))/\(x25=false->(Cl zA 12 [(.pointer r)].toArray w (λe w=>∃ (r_2:Int) (r_3:Int),e=.returned (.tuple [(.int .i64 r_2),(.int .i64 r_3)].toArray)/\(Cl zA 12 [(.pointer r)].toArray w (λe w=>∃ (r_4:Int) (r_5:Int),e=.returned (.tuple [(.int .i64 r_4),(.int .i64 r_5)].toArray)/\(Cl zA 22 [(.pointer r),(.int .i64 r_2),(.string (ByteArray.mk #[97]))].toArray w (λe w=>∃ (r_6:ByteArray) (r_7:Bool) (r_8:Int),e=.returned (.tuple [(.string r_6),(.bool r_7),(.int .i64 r_8)].toArray)/\(Cl zA 22 [(.pointer r),(.int .i64 r_4),(.string (ByteArray.mk #[97]))].toArray w (λe w=>∃ (r_9:ByteArray) (r_10:Bool) (r_11:Int),e=.returned (.tuple [(.string r_9),(.bool r_10),(.int .i64 r_11)].toArray)/\(Cl zA 14 [(.pointer r),(.int .i64 r_2),(.string (ByteArray.mk #[97])),(.string (ByteArray.mk #[50]))].toArray w (λe w=>∃ (r_12:Int),e=.returned (.int .i64 r_12)/\(Cl zA 14 [(.pointer r),(.int .i64 r_4),(.string (ByteArray.mk #[97])),(.string (ByteArray.mk #[51]))].toArray w (λe w=>∃ (r_13:Int),e=.returned (.int .i64 r_13)/\(Cl zA 15 [(.pointer r),(.int .i64 r_2)].toArray w (λe w=>∃ (r_14:Sl) (r_15:Int) (r_16:Int),e=.returned (.tuple [(Sl.v r_14),(.int .u64 r_15),(.int .i64 r_16)].toArray)/\(Cl zA 15 [(.pointer r),(.int .i64 r_4)].toArray w (λe w=>∃ (r_17:Sl) (r_18:Int) (r_19:Int),e=.returned (.tuple [(Sl.v r_17),(.int .u64 r_18),(.int .i64 r_19)].toArray)/\(((r_1=0)->(zAh Ret r r_4 r_6 r_7 r_8 r_12 r_13 r_14 r_15 r_16 r_19 (decide (r_2=1)) w))/\(¬ (r_1=0)->(zAh Ret r r_4 r_6 r_7 r_8 r_12 r_13 r_14 r_15 r_16 r_19 false w)))))))))))))))))))))))))
set_option maxRecDepth 100000 in
theorem zHf (w:World) (Ret:Bool->World->Prop) (H:zER w Ret):Cl zA 10 [].toArray w (λe w'=>∃ (r0:Bool),e=.returned (.bool r0)/\Ret r0 w'):=by
 unfold zER at H
 refine zk 118 (zipE 0 []) Tryz.func10 rfl rfl (by rfl) rfl ?_
 intro a g
 replace g:Sat [] 118 [] a:=g
 refine zK (zE (g.as_ rfl λ_ g=>zM (tn (zK (zE (g.op (zAv g rfl) H λx19 w a H g=>g.op (Zt g rfl) H λx20 w a H g=>g.call (zY g zN1 rfl rfl) H λe w H=>?_))))))
 obtain ⟨r,r_1,rfl,H⟩:=H
 refine ⟨_,rfl,λ_ g=>(g.mv rfl λ_ g=>g.pur (zZ g rfl rfl) λ_ g=>g.pur (zZ g rfl rfl) λ_ g=>g.as_ rfl λ_ g=>g.as_ rfl λ_ g=>zM (tn (zK (zK (zE (g.mv rfl λ_ g=>g.op (zCS g rfl rfl) H λx25 w a H g=>zM (tn (ze g rfl (λhc=>?_) (λhc=>?_)))))))))⟩
 ·replace H:=H.1 hc
  exact zK (zE (g.as_ rfl λ_ g=>zM (tn (zf (tr (zv g rfl rfl ⟨_,rfl,H⟩))))))
 ·replace H:=H.2 hc
  refine zX (tn (zK (zE (g.mv rfl λ_ g=>g.call (zY g zOC rfl rfl) H λe w H=>?_))))
  obtain ⟨r_2,r_3,rfl,H⟩:=H
  refine ⟨_,rfl,λ_ g=>(g.mv rfl λ_ g=>g.pur (zZ g rfl rfl) λ_ g=>g.pur (zZ g rfl rfl) λ_ g=>g.as_ rfl λ_ g=>g.as_ rfl λ_ g=>zM (tn (zK (zE (g.mv rfl λ_ g=>g.call (zY g zOC rfl rfl) H λe w H=>?_)))))⟩
  obtain ⟨r_4,r_5,rfl,H⟩:=H
  refine ⟨_,rfl,λ_ g=>(g.mv rfl λ_ g=>g.pur (zZ g rfl rfl) λ_ g=>g.pur (zZ g rfl rfl) λ_ g=>g.as_ rfl λ_ g=>g.as_ rfl λ_ g=>zM (tn (zK (zE (g.mv rfl λ_ g=>g.mv rfl λ_ g=>g.call (zY g zN9 rfl rfl) H λe w H=>?_)))))⟩
  obtain ⟨r_6,r_7,r_8,rfl,H⟩:=H
  refine ⟨_,rfl,λ_ g=>(g.mv rfl λ_ g=>g.pur (zZ g rfl rfl) λ_ g=>g.pur (zZ g rfl rfl) λ_ g=>g.pur (zZ g rfl rfl) λ_ g=>g.as_ rfl λ_ g=>g.as_ rfl λ_ g=>g.as_ rfl λ_ g=>zM (tn (zK (zE (g.mv rfl λ_ g=>g.mv rfl λ_ g=>g.call (zY g zN9 rfl rfl) H λe w H=>?_)))))⟩
  obtain ⟨r_9,r_10,r_11,rfl,H⟩:=H
  refine ⟨_,rfl,λ_ g=>(zM (tn (zK (zE (g.mv rfl λ_ g=>g.mv rfl λ_ g=>g.call (zY g zOs rfl rfl) H λe w H=>?_)))))⟩
  obtain ⟨r_12,rfl,H⟩:=H
  refine ⟨_,rfl,λ_ g=>(g.mv rfl λ_ g=>g.mv rfl λ_ g=>g.call (zY g zOs rfl rfl) H λe w H=>?_)⟩
  obtain ⟨r_13,rfl,H⟩:=H
  refine ⟨_,rfl,λ_ g=>(g.as_ rfl λ_ g=>g.as_ rfl λ_ g=>zM (tn (zK (zE (g.mv rfl λ_ g=>g.mv rfl λ_ g=>g.call (zY g zNI rfl rfl) H λe w H=>?_)))))⟩
  obtain ⟨r_14,r_15,r_16,rfl,H⟩:=H
  refine ⟨_,rfl,λ_ g=>(g.mv rfl λ_ g=>g.pur (zZ g rfl rfl) λ_ g=>g.pur (zZ g rfl rfl) λ_ g=>g.pur (zZ g rfl rfl) λ_ g=>g.as_ rfl λ_ g=>g.as_ rfl λ_ g=>g.as_ rfl λ_ g=>zM (tn (zK (zE (g.mv rfl λ_ g=>g.mv rfl λ_ g=>g.call (zY g zNI rfl rfl) H λe w H=>?_)))))⟩
  obtain ⟨r_17,r_18,r_19,rfl,H⟩:=H
  refine ⟨_,rfl,λ_ g=>(g.mv rfl λ_ g=>g.pur (zZ g rfl rfl) λ_ g=>g.pur (zZ g rfl rfl) λ_ g=>g.pur (zZ g rfl rfl) λ_ g=>g.as_ rfl λ_ g=>g.as_ rfl λ_ g=>g.as_ rfl λ_ g=>zM (tn (zK (zE (g.mv rfl λ_ g=>g.pur (ZF g rfl rfl) λ_ g=>g.mv rfl λ_ g=>WL.join (ds:=[]) (N:=118) (σ:=Bool) (λs=>[(71,(.bool s)),(1,(.pointer r)),(5,(.int .i64 r_4)),(7,(.string r_6)),(8,(.bool r_7)),(9,(.int .i64 r_8)),(10,(.int .i64 r_12)),(11,(.int .i64 r_13)),(12,(Sl.v r_14)),(13,(.int .u64 r_15)),(14,(.int .i64 r_16)),(17,(.int .i64 r_19))]) (λs w=>zAh Ret r r_4 r_6 r_7 r_8 r_12 r_13 r_14 r_15 r_16 r_19 s w) 3 ?_ (λhr1=>?_))))))⟩
  ·intro x71 w a H g
   try dsimp only at H g
   unfold zAh at H
   refine g.mv rfl λ_ g=>WL.join (ds:=[]) (N:=118) (σ:=Bool) (λs=>[(75,(.bool s)),(1,(.pointer r)),(7,(.string r_6)),(8,(.bool r_7)),(9,(.int .i64 r_8)),(10,(.int .i64 r_12)),(11,(.int .i64 r_13)),(12,(Sl.v r_14)),(13,(.int .u64 r_15)),(14,(.int .i64 r_16)),(17,(.int .i64 r_19))]) (λs w=>zAj Ret r r_6 r_7 r_8 r_12 r_13 r_14 r_15 r_16 r_19 s w) 3 ?_ (λhr2=>?_)
   ·intro x75 w a H g
    try dsimp only at H g
    unfold zAj at H
    refine g.mv rfl λ_ g=>WL.join (ds:=[]) (N:=118) (σ:=Bool) (λs=>[(79,(.bool s)),(1,(.pointer r)),(8,(.bool r_7)),(9,(.int .i64 r_8)),(10,(.int .i64 r_12)),(11,(.int .i64 r_13)),(12,(Sl.v r_14)),(13,(.int .u64 r_15)),(14,(.int .i64 r_16)),(17,(.int .i64 r_19))]) (λs w=>zAm Ret r r_7 r_8 r_12 r_13 r_14 r_15 r_16 r_19 s w) 3 ?_ (λhr3=>?_)
    ·intro x79 w a H g
     try dsimp only at H g
     unfold zAm at H
     refine g.mv rfl λ_ g=>WL.join (ds:=[]) (N:=118) (σ:=Bool) (λs=>[(82,(.bool s)),(1,(.pointer r)),(9,(.int .i64 r_8)),(10,(.int .i64 r_12)),(11,(.int .i64 r_13)),(12,(Sl.v r_14)),(13,(.int .u64 r_15)),(14,(.int .i64 r_16)),(17,(.int .i64 r_19))]) (λs w=>zAo Ret r r_8 r_12 r_13 r_14 r_15 r_16 r_19 s w) 2 ?_ (λhr4=>?_)
     ·intro x82 w a H g
      try dsimp only at H g
      unfold zAo at H
      refine g.mv rfl λ_ g=>WL.join (ds:=[]) (N:=118) (σ:=Bool) (λs=>[(86,(.bool s)),(1,(.pointer r)),(10,(.int .i64 r_12)),(11,(.int .i64 r_13)),(12,(Sl.v r_14)),(13,(.int .u64 r_15)),(14,(.int .i64 r_16)),(17,(.int .i64 r_19))]) (λs w=>zAy Ret r r_12 r_13 r_14 r_15 r_16 r_19 s w) 3 ?_ (λhr5=>?_)
      ·intro x86 w a H g
       try dsimp only at H g
       unfold zAy at H
       refine g.mv rfl λ_ g=>WL.join (ds:=[]) (N:=118) (σ:=Bool) (λs=>[(90,(.bool s)),(1,(.pointer r)),(11,(.int .i64 r_13)),(12,(Sl.v r_14)),(13,(.int .u64 r_15)),(14,(.int .i64 r_16)),(17,(.int .i64 r_19))]) (λs w=>zAr Ret r r_13 r_14 r_15 r_16 r_19 s w) 3 ?_ (λhr6=>?_)
       ·intro x90 w a H g
        try dsimp only at H g
        unfold zAr at H
        refine g.mv rfl λ_ g=>WL.join (ds:=[]) (N:=118) (σ:=Bool) (λs=>[(94,(.bool s)),(1,(.pointer r)),(12,(Sl.v r_14)),(13,(.int .u64 r_15)),(14,(.int .i64 r_16)),(17,(.int .i64 r_19))]) (λs w=>zAf Ret r r_14 r_15 r_16 r_19 s w) 3 ?_ (λhr7=>?_)
        ·intro x94 w a H g
         try dsimp only at H g
         unfold zAf at H
         refine g.mv rfl λ_ g=>WL.join (ds:=[]) (N:=118) (σ:=Bool) (λs=>[(100,(.bool s)),(1,(.pointer r)),(13,(.int .u64 r_15)),(14,(.int .i64 r_16)),(17,(.int .i64 r_19))]) (λs w=>zAu Ret r r_15 r_16 r_19 s w) 5 ?_ (λhr8=>?_)
         ·intro x100 w a H g
          try dsimp only at H g
          unfold zAu at H
          refine g.mv rfl λ_ g=>WL.join (ds:=[]) (N:=118) (σ:=Bool) (λs=>[(104,(.bool s)),(1,(.pointer r)),(14,(.int .i64 r_16)),(17,(.int .i64 r_19))]) (λs w=>zAg Ret r r_16 r_19 s w) 3 ?_ (λhr9=>?_)
          ·intro x104 w a H g
           try dsimp only at H g
           unfold zAg at H
           refine g.mv rfl λ_ g=>WL.join (ds:=[]) (N:=118) (σ:=Bool) (λs=>[(108,(.bool s)),(1,(.pointer r)),(17,(.int .i64 r_19))]) (λs w=>zAX Ret r r_19 s w) 3 ?_ (λhr10=>?_)
           ·intro x108 w a H g
            try dsimp only at H g
            unfold zAX at H
            refine g.mv rfl λ_ g=>WL.join (ds:=[]) (N:=118) (σ:=Bool) (λs=>[(112,(.bool s)),(1,(.pointer r))]) (λs w=>zAY Ret r s w) 3 ?_ (λhr11=>?_)
            ·intro x112 w a H g
             try dsimp only at H g
             unfold zAY at H
             refine g.mv rfl λ_ g=>WL.join (ds:=[]) (N:=118) (σ:=Bool) (λs=>[(117,(.bool s))]) (λs w=>zAa Ret s w) 4 ?_ (λhr12=>?_)
             ·intro x117 w a H g
              try dsimp only at H g
              unfold zAa at H
              exact g.as_ rfl λ_ g=>zM (tn (zf (zv g rfl rfl ⟨_,rfl,H⟩)))
             ·rcases Bool.eq_false_or_eq_true (x112) with hbr12|hbr12
              ·replace H:=H.1 hbr12
               replace g:=g.bool (b:=true) (t:=113) rfl (hbr12)
               refine g.on (by rfl) (by rfl) (g.mv rfl λ_ g=>g.on (by rfl) (by rfl) (g.call (zY g zQ2 rfl rfl) H λe w H=>?_))
               obtain ⟨r_20,rfl,H⟩:=H
               exact ⟨_,rfl,λ_ g=>(g.on (by rfl) (by rfl) (g.pur (ZF g rfl rfl) λ_ g=>g.pur (zo g rfl rfl) λ_ g=>hr12 (decide (r_20=2)) _ _ H (g.wk)))⟩
              ·replace H:=H.2 hbr12
               replace g:=g.bool (b:=false) (t:=113) rfl (hbr12)
               exact g.off (by rfl) (by rfl) (by decide) (λ_ g=>g.off (by rfl) (by rfl) (by decide) (λ_ g=>g.off (by rfl) (by rfl) (by decide) (λ_ g=>g.pur (zn g rfl rfl) λ_ g=>hr12 false _ _ H (g.wk))))
            ·rcases Bool.eq_false_or_eq_true (x108) with hbr11|hbr11
             ·replace H:=H.1 hbr11
              replace g:=g.bool (b:=true) (t:=109) rfl (hbr11)
              exact g.on (by rfl) (by rfl) (g.mv rfl λ_ g=>g.on (by rfl) (by rfl) (g.pur (ZF g rfl rfl) λ_ g=>g.pur (zo g rfl rfl) λ_ g=>hr11 (decide (r_19=10)) _ _ H (g.wk)))
             ·replace H:=H.2 hbr11
              replace g:=g.bool (b:=false) (t:=109) rfl (hbr11)
              exact g.off (by rfl) (by rfl) (by decide) (λ_ g=>g.off (by rfl) (by rfl) (by decide) (λ_ g=>g.pur (zn g rfl rfl) λ_ g=>hr11 false _ _ H (g.wk)))
           ·rcases Bool.eq_false_or_eq_true (x104) with hbr10|hbr10
            ·replace H:=H.1 hbr10
             replace g:=g.bool (b:=true) (t:=105) rfl (hbr10)
             exact g.on (by rfl) (by rfl) (g.mv rfl λ_ g=>g.on (by rfl) (by rfl) (g.pur (ZF g rfl rfl) λ_ g=>g.pur (zo g rfl rfl) λ_ g=>hr10 (decide (r_16=0)) _ _ H (g.wk)))
            ·replace H:=H.2 hbr10
             replace g:=g.bool (b:=false) (t:=105) rfl (hbr10)
             exact g.off (by rfl) (by rfl) (by decide) (λ_ g=>g.off (by rfl) (by rfl) (by decide) (λ_ g=>g.pur (zn g rfl rfl) λ_ g=>hr10 false _ _ H (g.wk)))
          ·rcases Bool.eq_false_or_eq_true (x100) with hbr9|hbr9
           ·replace H:=H.1 hbr9
            replace g:=g.bool (b:=true) (t:=101) rfl (hbr9)
            exact g.on (by rfl) (by rfl) (g.mv rfl λ_ g=>g.on (by rfl) (by rfl) (g.pur (ZF g rfl rfl) λ_ g=>g.pur (zo g rfl rfl) λ_ g=>hr9 (decide (r_15=2)) _ _ H (g.wk)))
           ·replace H:=H.2 hbr9
            replace g:=g.bool (b:=false) (t:=101) rfl (hbr9)
            exact g.off (by rfl) (by rfl) (by decide) (λ_ g=>g.off (by rfl) (by rfl) (by decide) (λ_ g=>g.pur (zn g rfl rfl) λ_ g=>hr9 false _ _ H (g.wk)))
         ·rcases Bool.eq_false_or_eq_true (x94) with hbr8|hbr8
          ·replace H:=H.1 hbr8
           replace g:=g.bool (b:=true) (t:=95) rfl (hbr8)
           refine g.on (by rfl) (by rfl) (g.mv rfl λ_ g=>g.on (by rfl) (by rfl) (g.op (zAv g rfl) H λx97 w a H g=>g.on (by rfl) (by rfl) (g.op (Zt g rfl) H λx98 w a H g=>g.on (by rfl) (by rfl) (g.call (zY g zOR rfl rfl) H λe w H=>?_))))
           obtain ⟨r_21,rfl,H⟩:=H
           exact ⟨_,rfl,λ_ g=>(g.pur (zo g rfl rfl) λ_ g=>hr8 r_21 _ _ H (g.wk))⟩
          ·replace H:=H.2 hbr8
           replace g:=g.bool (b:=false) (t:=95) rfl (hbr8)
           exact g.off (by rfl) (by rfl) (by decide) (λ_ g=>g.off (by rfl) (by rfl) (by decide) (λ_ g=>g.off (by rfl) (by rfl) (by decide) (λ_ g=>g.off (by rfl) (by rfl) (by decide) (λ_ g=>g.pur (zn g rfl rfl) λ_ g=>hr8 false _ _ H (g.wk)))))
        ·rcases Bool.eq_false_or_eq_true (x90) with hbr7|hbr7
         ·replace H:=H.1 hbr7
          replace g:=g.bool (b:=true) (t:=91) rfl (hbr7)
          exact g.on (by rfl) (by rfl) (g.mv rfl λ_ g=>g.on (by rfl) (by rfl) (g.pur (ZF g rfl rfl) λ_ g=>g.pur (zo g rfl rfl) λ_ g=>hr7 (decide (r_13=0)) _ _ H (g.wk)))
         ·replace H:=H.2 hbr7
          replace g:=g.bool (b:=false) (t:=91) rfl (hbr7)
          exact g.off (by rfl) (by rfl) (by decide) (λ_ g=>g.off (by rfl) (by rfl) (by decide) (λ_ g=>g.pur (zn g rfl rfl) λ_ g=>hr7 false _ _ H (g.wk)))
       ·rcases Bool.eq_false_or_eq_true (x86) with hbr6|hbr6
        ·replace H:=H.1 hbr6
         replace g:=g.bool (b:=true) (t:=87) rfl (hbr6)
         exact g.on (by rfl) (by rfl) (g.mv rfl λ_ g=>g.on (by rfl) (by rfl) (g.pur (ZF g rfl rfl) λ_ g=>g.pur (zo g rfl rfl) λ_ g=>hr6 (decide (r_12=0)) _ _ H (g.wk)))
        ·replace H:=H.2 hbr6
         replace g:=g.bool (b:=false) (t:=87) rfl (hbr6)
         exact g.off (by rfl) (by rfl) (by decide) (λ_ g=>g.off (by rfl) (by rfl) (by decide) (λ_ g=>g.pur (zn g rfl rfl) λ_ g=>hr6 false _ _ H (g.wk)))
      ·rcases Bool.eq_false_or_eq_true (x82) with hbr5|hbr5
       ·replace H:=H.1 hbr5
        replace g:=g.bool (b:=true) (t:=83) rfl (hbr5)
        exact g.on (by rfl) (by rfl) (g.mv rfl λ_ g=>g.on (by rfl) (by rfl) (g.pur (ZF g rfl rfl) λ_ g=>g.pur (zo g rfl rfl) λ_ g=>hr5 (decide (r_8=0)) _ _ H (g.wk)))
       ·replace H:=H.2 hbr5
        replace g:=g.bool (b:=false) (t:=83) rfl (hbr5)
        exact g.off (by rfl) (by rfl) (by decide) (λ_ g=>g.off (by rfl) (by rfl) (by decide) (λ_ g=>g.pur (zn g rfl rfl) λ_ g=>hr5 false _ _ H (g.wk)))
     ·rcases Bool.eq_false_or_eq_true (x79) with hbr4|hbr4
      ·replace H:=H.1 hbr4
       replace g:=g.bool (b:=true) (t:=80) rfl (hbr4)
       exact g.on (by rfl) (by rfl) (g.mv rfl λ_ g=>g.pur (zo g rfl rfl) λ_ g=>hr4 r_7 _ _ H (g.wk))
      ·replace H:=H.2 hbr4
       replace g:=g.bool (b:=false) (t:=80) rfl (hbr4)
       exact g.off (by rfl) (by rfl) (by decide) (λ_ g=>g.pur (zn g rfl rfl) λ_ g=>hr4 false _ _ H (g.wk))
    ·rcases Bool.eq_false_or_eq_true (x75) with hbr3|hbr3
     ·replace H:=H.1 hbr3
      replace g:=g.bool (b:=true) (t:=76) rfl (hbr3)
      exact g.on (by rfl) (by rfl) (g.mv rfl λ_ g=>g.on (by rfl) (by rfl) (g.pur (zKx g rfl rfl) λ_ g=>g.pur (zo g rfl rfl) λ_ g=>hr3 (decide (r_6=(ByteArray.mk #[49]))) _ _ H (g.wk)))
     ·replace H:=H.2 hbr3
      replace g:=g.bool (b:=false) (t:=76) rfl (hbr3)
      exact g.off (by rfl) (by rfl) (by decide) (λ_ g=>g.off (by rfl) (by rfl) (by decide) (λ_ g=>g.pur (zn g rfl rfl) λ_ g=>hr3 false _ _ H (g.wk)))
   ·rcases Bool.eq_false_or_eq_true (x71) with hbr2|hbr2
    ·replace H:=H.1 hbr2
     replace g:=g.bool (b:=true) (t:=72) rfl (hbr2)
     exact g.on (by rfl) (by rfl) (g.mv rfl λ_ g=>g.on (by rfl) (by rfl) (g.pur (ZF g rfl rfl) λ_ g=>g.pur (zo g rfl rfl) λ_ g=>hr2 (decide (r_4=2)) _ _ H (g.wk)))
    ·replace H:=H.2 hbr2
     replace g:=g.bool (b:=false) (t:=72) rfl (hbr2)
     exact g.off (by rfl) (by rfl) (by decide) (λ_ g=>g.off (by rfl) (by rfl) (by decide) (λ_ g=>g.pur (zn g rfl rfl) λ_ g=>hr2 false _ _ H (g.wk)))
  ·rcases Classical.em ((r_1=0)) with hbr1|hbr1
   ·replace H:=H.1 hbr1
    replace g:=g.bool (b:=true) (t:=68) rfl (decide_eq_true hbr1)
    exact g.on (by rfl) (by rfl) (g.mv rfl λ_ g=>g.on (by rfl) (by rfl) (g.pur (ZF g rfl rfl) λ_ g=>g.pur (zo g rfl rfl) λ_ g=>hr1 (decide (r_2=1)) _ _ H (g.wk)))
   ·replace H:=H.2 hbr1
    replace g:=g.bool (b:=false) (t:=68) rfl (decide_eq_false hbr1)
    exact g.off (by rfl) (by rfl) (by decide) (λ_ g=>g.off (by rfl) (by rfl) (by decide) (λ_ g=>g.pur (zn g rfl rfl) λ_ g=>hr1 false _ _ H (g.wk)))
end Go.Proofs.YtealcoghiaeiiaaGreat.VG
set_option linter.unusedVariables false
namespace Go.Proofs.YtealcoghiaeiiaaGreat.VG
open Go.VB Go.Proofs Go.RowKit
theorem zLU {κ ν:Type} {f:κ->Option ν} {ks D:List κ} (h:Doms f ks) (hD:∀ k v,f k=some v->k∈D):ks.length<=D.length:=zFr h.1 λk hk=>by
 obtain ⟨v,hv⟩:=(h.2 k).1 hk;exact hD k v hv
theorem zKs (s:St) (n:Int):(zBR s n).now=s.now:=by unfold zBR zJ9;split<;>rfl
theorem zMM (s:St) (n:Int):(zBR s n).tx=del s.tx n:=by unfold zBR zJ9;split<;>rfl
abbrev t3:ByteArray:=ByteArray.mk #[51]
abbrev l1:List Pai:=[⟨tA,t1⟩]
abbrev v1:Ver:=⟨tA,1,t1,false⟩
abbrev wX:Wri:=⟨tA,t2,false⟩
theorem zPx:zD1 [v1] 1:=zJe (by decide) (by decide) (by intro x hx;simp at hx;subst hx;exact ⟨by decide,by decide,λh=>(nomatch h),by decide,by decide⟩) (by simp)
theorem zPu:pwhy [v1] 1 [wX] 2=0:=zIB.2 ⟨zPx,zFA.2 ⟨by decide,by intro w hw;simp at hw;subst hw;unfold zBI;decide,by simp [zEm]⟩,by decide,by decide,by decide,by intro x hx;simp at hx;subst hx;decide,by decide⟩
theorem put1:vput [v1] 1 [wX] 2=(putL [v1] 2 [wX],1,0):=by unfold vput;rw [if_neg (by rw [zPu];decide)]
theorem zL8 {s:St} {ks:List Int} (hd:Doms s.tx ks):∃ lo,zGd s lo:=by
 have:∀ ks:List Int,∃ lo,lo<=s.now/\(∀ k∈ks,∀ t,s.tx k=some t->lo<=t.began)/\(lo=s.now∨∃ k t,s.tx k=some t/\lo=t.began):=by
  intro ks
  induction ks with
  |nil=>exact ⟨s.now,Int.le_refl _,by simp,.inl rfl⟩
  |cons k ks ih=>
   obtain ⟨lo,h1,h2,h3⟩:=ih
   cases ht:s.tx k with
   |none=>exact ⟨lo,h1,λj hj t hjt=>by
     rcases List.mem_cons.1 hj with e|e
     ·subst e;rw [ht] at hjt;cases hjt
     ·exact h2 j e t hjt,h3⟩
   |some u=>
    by_cases hu:u.began<lo
    ·exact ⟨u.began,by omega,λj hj t hjt=>by
      rcases List.mem_cons.1 hj with e|e
      ·subst e;rw [ht] at hjt;cases hjt;exact Int.le_refl _
      ·have:=h2 j e t hjt;omega,.inr ⟨k,u,ht,rfl⟩⟩
    ·exact ⟨lo,h1,λj hj t hjt=>by
      rcases List.mem_cons.1 hj with e|e
      ·subst e;rw [ht] at hjt;cases hjt;omega
      ·exact h2 j e t hjt,h3⟩
 obtain ⟨lo,h1,h2,h3⟩:=this ks
 exact ⟨lo,h1,λn t ht=>h2 n ((hd.2 n).2 ⟨t,ht⟩) t ht,h3⟩
theorem zOl {s:St} {n:Int} {v:Ver} (hv:v∈s.l) (hs:s.l.Pairwise vlt) {m:Int} {t:Tx} (ht:s.tx m=some t) (hm:m≠n) (ha:t.began<v.At) (hlow:∃ lo,zGd (delTx s n) lo):v∈(zBR s n).l:=by
 unfold zBR zJ9
 split
 ·rename_i h
  obtain ⟨h1,h2,h3,h4⟩:=zNg h
  show v∈(zDP (delTx s n).l (delTx s n).low (zJx (delTx s n))).1
  rw [h4]
  obtain ⟨lo,hlo⟩:=hlow
  have h5:lo<=t.began:=hlo.all m t (by show del s.tx n m=_;rw [zB2 _ hm];exact ht)
  have h6:=hlo.eq
  exact (zM9 hs).2 ⟨hv,λy _ _ h=>by omega,λh=>by omega⟩
 ·exact hv
theorem zOn (w:World) {k:Bool->World->Prop} (H:∀ w',Bel w w'->k true w'):Cl zA zHX [].toArray w (λe w'=>∃ r0:Bool,e=.returned (.bool r0)/\k r0 w'):=by
 refine zHf w k ?_
 unfold zER
 refine ⟨⟨tA,t1⟩,w,by kernel_rfl,?_⟩
 have hl1:=Rd.lit (c:=zL.cells) (n:=2) (λ_=>rfl) l1 (by decide) w zA3
 have b1:Bel w (w.alloc (.cells (l1.flatMap zL.cells).toArray zA3)):=Bel.alloc _ _
 refine ⟨⟨some ⟨w.heap.size,0,none⟩,1,1⟩,(w.alloc (.cells (l1.flatMap zL.cells).toArray zA3)),by kernel_rfl,?_⟩
 generalize (w.alloc (.cells (l1.flatMap zL.cells).toArray zA3))=w1 at hl1 b1 ⊢
 have hnl:l1.any zHI=false:=by decide
 refine zO5 (l:=l1) hl1 (λh=>absurd h (by decide)) (λ_ h=>absurd h (by rw [hnl];decide)) (λ_ _ h=>absurd (λj x y hj hx hy=>by simp at hj) h) λ_ _ _ b ρ w2 b2 m2 hρ=>?_
 have b02:=b1.trans b2
 have hρ0:∀ q,q<w.heap.size->ρ q=none:=λq hq=>hρ q (QR hq b1.le)
 refine zJ3 _ ⟨λh=>(nomatch h),λ_=>?_⟩
 have hd0:∀ {ks},Doms (newS l1).tx ks->ks.length<=([]:List Int).length:=λh=>zLU h λq v hv=>by cases hv
 refine zJz m2 (by decide) (by decide) rfl (λks hks h=>by exfalso;have:=hd0 hks;simp only [List.length_nil] at this;omega) λks ρ3 w3 _ _ m3 e3=>?_
 let T0:Tx:=zGq (newS l1)
 have tx1:(zGS (newS l1)).tx=upd (λ_=>none) 1 T0:=rfl
 have hd1:∀ {ks},Doms (zGS (newS l1)).tx ks->ks.length<=([1]:List Int).length:=λh=>zLU h λq v hv=>by
  by_cases hq:q=1
  ·subst hq;simp
  ·rw [tx1,yv _ _ hq] at hv;cases hv
 refine zJz m3 (by show (0:Int)<=0+1;decide) (by show (0:Int)+1<_;decide) (by rw [tx1];exact yv _ _ (by show (0:Int)+1+1≠1;decide)) (λks hks h=>by exfalso;have:=hd1 hks;simp only [List.length_cons,List.length_nil] at this;omega) λks ρ4 w4 _ _ m4 e4=>?_
 have e24:=e3.trans e4
 generalize hS2:zGS (zGS (newS l1))=S2 at m4
 have n2:S2.now=1:=by rw [← hS2];rfl
 have l2:S2.l=[v1]:=by rw [← hS2];rfl
 have lo2:S2.low=1:=by rw [← hS2];rfl
 have x21:S2.tx 1=some T0:=by rw [← hS2];show upd (zGS (newS l1)).tx 2 _ 1=_;rw [yv _ _ (by decide),tx1,Yf]
 have x22:S2.tx 2=some T0:=by rw [← hS2];show upd (zGS (newS l1)).tx 2 _ 2=_;rw [Yf];rfl
 have x2o:∀ q,q≠1->q≠2->S2.tx q=none:=λq h1 h2=>by rw [← hS2];show upd (zGS (newS l1)).tx 2 _ q=_;rw [yv _ _ h2,tx1,yv _ _ h1]
 clear hS2
 refine zMq m4 1 tA (λh=>by rw [x21] at h;cases h) (λt _ h=>absurd h (by decide)) (λt ht _ h=>by rw [x21] at ht;cases ht;simp [T0,zGq] at h) λt ρ5 w5 ht _ _ m5 e5=>?_
 rw [x21] at ht;cases ht
 have hget:tget S2 T0 tA=(t1,true,0):=by
  show vget S2.l S2.low tA 1=_
  rw [l2,lo2,zPO zPx (by decide),show ([v1]:List Ver)=[v1] from rfl,zL3,if_pos ⟨rfl,by decide⟩];rfl
 rw [hget]
 let T1:Tx:=addR T0 (zIl tA)
 have x31:(setTx S2 1 T1).tx 1=some T1:=by simp [setTx,Yf]
 have x32:(setTx S2 1 T1).tx 2=some T0:=by simp only [setTx];rw [yv _ _ (by decide)];exact x22
 refine zMq m5 2 tA (λh=>by rw [x32] at h;cases h) (λt _ h=>absurd h (by decide)) (λt ht _ h=>by rw [x32] at ht;cases ht;simp [T0,zGq] at h) λt ρ6 w6 ht _ _ m6 e6=>?_
 rw [x32] at ht;cases ht
 have e26:=(e24.trans e5).trans e6
 generalize hS4:setTx (setTx S2 1 T1) 2 (addR T0 (zIl tA))=S4 at m6
 have x41:S4.tx 1=some T1:=by rw [← hS4];simp only [setTx];rw [yv _ _ (by decide),Yf]
 have x42:S4.tx 2=some T1:=by rw [← hS4];simp only [setTx];rw [Yf]
 have x4o:∀ q,q≠1->q≠2->S4.tx q=none:=λq h1 h2=>by rw [← hS4];simp only [setTx];rw [yv _ _ h2,yv _ _ h1];exact x2o q h1 h2
 have n4:S4.now=1:=by rw [← hS4];exact n2
 have l4:S4.l=[v1]:=by rw [← hS4];exact l2
 have lo4:S4.low=1:=by rw [← hS4];exact lo2
 clear hS4
 have hnoW:∀ {ks},Doms T1.wr ks->ks.length<=([]:List ByteArray).length:=λh=>zLU h λq v hv=>by cases hv
 refine zMv 1 tA t2 (zJr m6 1 ⟨tA,t2,false⟩ (λh=>by rw [x41] at h;cases h) (λt _ h=>absurd h (by unfold zBI;decide)) (λt ks ht _ _ hks h=>by rw [x41] at ht;cases ht;have:=hnoW hks;simp only [List.length_nil] at this;exfalso;omega) λt w7 ht _ _ m7 e7=>?_)
 rw [x41] at ht;cases ht
 let P1:Tx:=putW T1 wX
 let P2:Tx:=putW T1 ⟨tA,t3,false⟩
 have x52:(setTx S4 1 P1).tx 2=some T1:=by simp only [setTx];rw [yv _ _ (by decide)];exact x42
 refine zMv 2 tA t3 (zJr m7 2 ⟨tA,t3,false⟩ (λh=>by rw [x52] at h;cases h) (λt _ h=>absurd h (by unfold zBI;decide)) (λt ks ht _ _ hks h=>by rw [x52] at ht;cases ht;have:=hnoW hks;simp only [List.length_nil] at this;exfalso;omega) λt w8 ht _ _ m8 e8=>?_)
 rw [x52] at ht;cases ht
 have e28:=(e26.trans e7).trans e8
 generalize hS6:setTx (setTx S4 1 P1) 2 (putW T1 ⟨tA,t3,false⟩)=S6 at m8
 have x61:S6.tx 1=some P1:=by rw [← hS6];simp only [setTx];rw [yv _ _ (by decide),Yf]
 have x62:S6.tx 2=some P2:=by rw [← hS6];simp only [setTx];rw [Yf]
 have x6o:∀ q,q≠1->q≠2->S6.tx q=none:=λq h1 h2=>by rw [← hS6];simp only [setTx];rw [yv _ _ h2,yv _ _ h1];exact x4o q h1 h2
 have n6:S6.now=1:=by rw [← hS6];exact n4
 have l6:S6.l=[v1]:=by rw [← hS6];exact l4
 have lo6:S6.low=1:=by rw [← hS6];exact lo4
 clear hS6
 have few:∀ x:Wri,x.Key=tA->Few (putW T1 x)/\zKi (putW T1 x):=λx hx=>by
  have hw:(putW T1 x).wr=upd (λ_=>none) tA x:=by show upd _ x.Key x=_;rw [hx];rfl
  refine ⟨⟨[tA],⟨by simp,λq=>?_⟩,by decide⟩,λq y hy=>?_⟩
  ·rw [hw]
   by_cases hq:q=tA
   ·subst hq;simp [Yf]
   ·simp [yv _ _ hq,hq]
  ·rw [hw] at hy
   by_cases hq:q=tA
   ·subst hq;rw [Yf] at hy;cases hy;exact hx
   ·rw [yv _ _ hq] at hy;cases hy
 have w1:P1.wr=upd (λ_=>none) tA wX:=rfl
 have srt:zE9 P1.wr [wX]:=⟨by simp,λz=>by
  rw [w1]
  by_cases hq:z.Key=tA
  ·rw [hq,Yf];simp;exact eq_comm
  ·rw [yv _ _ hq];simp;intro e;subst e;exact hq rfl⟩
 have noc:S6.l.any (conf P1)=false:=by rw [l6];show (decide ((1:Int)<1)&&_||false)=false;rw [show decide ((1:Int)<1)=false from by decide];rfl
 refine zI9 m8 1 (λt ht=>by rw [x61] at ht;cases ht;exact few wX rfl) (by rw [n6];decide) (by rw [n6];decide) (λh=>by rw [x61] at h;cases h) (λt ρ' w' ht h=>by rw [x61] at ht;cases ht;rw [noc] at h;cases h) (λt ρ' w' ht _ h=>by rw [x61] at ht;cases ht;have:=h tA;rw [w1,Yf] at this;cases this)
  (λt ys ρ' w' ht _ hS _ h=>by
   rw [x61] at ht;cases ht
   rw [hS.one srt,n6,l6,lo6,show (1:Int)+1=2 from rfl,put1] at h
   exact absurd rfl h) λt ys r ρ9 w9 ht _ hS _ _ m9 e9 hr hq=>?_
 rw [x61] at ht;cases ht
 obtain rfl:=hS.one srt
 rw [n6,l6,lo6,show (1:Int)+1=2 from rfl,put1] at m9
 rw [n6,show (1:Int)+1=2 from rfl]
 have hdm:Doms (delTx (putS S6 (putL [v1] 2 [wX],1,0)) 1).tx [2]:=⟨by simp,λq=>by
  show q∈[2]↔∃ v,del S6.tx 1 q=some v
  by_cases h1:q=1
  ·subst h1;simp [zFs]
  ·rw [zB2 _ h1]
   by_cases h2:q=2
   ·subst h2;simp [x62]
   ·simp [x6o q h1 h2,h2]⟩
 have hmem:mk 2 wX∈(zBR (putS S6 (putL [v1] 2 [wX],1,0)) 1).l:=zOl (m:=2) (t:=P2) (zKE.2 (.inr ⟨wX,by simp,rfl⟩)) (zJ1 zPu) x62 (by decide) (by show (1:Int)<2;decide) (zL8 hdm)
 generalize hS7:zBR (putS S6 (putL [v1] 2 [wX],1,0)) 1=S7 at m9 hmem
 have n7:S7.now=2:=by rw [← hS7,zKs];show S6.now+1=2;rw [n6];rfl
 have x72:S7.tx 2=some P2:=by rw [← hS7,zMM,zB2 _ (by decide)];exact x62
 clear hS7
 have con:S7.l.any (conf P2)=true:=List.any_eq_true.2 ⟨_,hmem,by decide⟩
 have e29:=e28.trans e9
 refine zI9 m9 2 (λt ht=>by rw [x72] at ht;cases ht;exact few _ rfl) (by rw [n7];decide) (by rw [n7];decide) (λh=>by rw [x72] at h;cases h) (λt ρ10 w10 ht _ m10 e10=>?_) (λt ρ' w' ht h=>by rw [x72] at ht;cases ht;rw [con] at h;cases h) (λt ys ρ' w' ht h=>by rw [x72] at ht;cases ht;rw [con] at h;cases h) (λt ys r ρ' w' ht h=>by rw [x72] at ht;cases ht;rw [con] at h;cases h)
 have hr10:zIK w10 r [wX]:=(zBw.rd hr).keep λq h=>by obtain ⟨_,h1,h2⟩:=hq q h;exact e10.blk h1 h2
 have b10:Bel w w10:=(e29.trans e10).base b02 hρ0
 obtain ⟨vs,mb,g,m10⟩:=m10
 have n10:(zBR S7 2).now=2:=by rw [zKs];exact n7
 refine ⟨λ_=>?_,λh=>absurd rfl h⟩
 unfold zAh
 refine ⟨λ_=>?_,λh=>absurd h (by decide)⟩
 unfold zAj
 refine ⟨λ_=>?_,λh=>absurd h (by decide)⟩
 unfold zAm
 refine ⟨λ_=>?_,λh=>absurd h (by decide)⟩
 unfold zAo
 refine ⟨λ_=>?_,λh=>(nomatch h)⟩
 unfold zAy
 refine ⟨λ_=>?_,λh=>absurd h (by decide)⟩
 unfold zAr
 refine ⟨λ_=>?_,λh=>absurd h (by decide)⟩
 unfold zAf
 refine ⟨λ_=>?_,λh=>absurd h (by decide)⟩
 refine ⟨wX,w10,by kernel_rfl,?_⟩
 have hl2:=Rd.lit (c:=zI.cells) (n:=3) (λ_=>rfl) [wX] (by decide) w10 Zs
 have b11:Bel w10 (w10.alloc (.cells ([wX].flatMap zI.cells).toArray Zs)):=Bel.alloc _ _
 refine ⟨⟨some ⟨w10.heap.size,0,none⟩,1,1⟩,(w10.alloc (.cells ([wX].flatMap zI.cells).toArray Zs)),by kernel_rfl,?_⟩
 generalize (w10.alloc (.cells ([wX].flatMap zI.cells).toArray Zs))=w11 at hl2 b11 ⊢
 refine zKH (hr10.bel b11) hl2 λc w12 hc b12=>?_
 obtain rfl:c=true:=hc.2 rfl
 unfold zAu
 refine ⟨λ_=>?_,λh=>(nomatch h)⟩
 unfold zAg
 refine ⟨λ_=>?_,λh=>absurd h (by decide)⟩
 unfold zAX
 refine ⟨λ_=>?_,λh=>absurd h (by decide)⟩
 unfold zAY
 refine ⟨λ_=>?_,λh=>absurd h (by decide)⟩
 refine zQS ((m10.bel b11).bel b12) ?_
 unfold zAa
 rw [n10]
 exact H w12 ((b10.trans b11).trans b12)
end Go.Proofs.YtealcoghiaeiiaaGreat.VG
set_option linter.unusedVariables false
namespace Go.Proofs.YtealcoghiaeiiaaGreat.VG
open Go.VB Go.Proofs Go.RowKit
section
variable {κ ν:Type}
theorem zOc {f:κ->Option ν} {ks js:List κ} (h:Doms f ks) (k:Doms f js):ks.length=js.length:=
 Nat.le_antisymm (zFr h.1 λx hx=>(k.2 x).2 ((h.2 x).1 hx)) (zFr k.1 λx hx=>(h.2 x).2 ((k.2 x).1 hx))
open Classical in
noncomputable def cnt (f:κ->Option ν):Nat:=if h:∃ ks,Doms f ks then h.choose.length else 0
theorem zJM {f:κ->Option ν} {ks:List κ} (h:Doms f ks):cnt f=ks.length:=by
 have:∃ ks,Doms f ks:=⟨ks,h⟩
 unfold cnt;rw [dif_pos this];exact zOc this.choose_spec h
theorem zJ2 {f:κ->Option ν} {ks:List κ} (h:Doms f ks) (k:κ) (v:ν):∃ js,Doms (upd f k v) js/\js.length<=ks.length+1/\(f k≠none->js.length=ks.length):=by
 by_cases hk:k∈ks
 ·refine ⟨ks,⟨h.1,λx=>?_⟩,by omega,λ_=>rfl⟩
  by_cases hx:x=k
  ·subst hx;rw [Yf];exact ⟨λ_=>⟨v,rfl⟩,λ_=>hk⟩
  ·rw [yv _ _ hx];exact h.2 x
 ·refine ⟨k::ks,⟨List.nodup_cons.2 ⟨hk,h.1⟩,λx=>?_⟩,by simp,λhn=>absurd ((h.2 k).2 (Option.ne_none_iff_exists'.1 hn)) hk⟩
  by_cases hx:x=k
  ·subst hx;rw [Yf];exact ⟨λ_=>⟨v,rfl⟩,λ_=>by simp⟩
  ·rw [yv _ _ hx,← h.2 x,List.mem_cons];exact ⟨λh1=>h1.resolve_left hx,.inr⟩
theorem zML {f:κ->Option ν} {ks:List κ} (h:Doms f ks) (k:κ):∃ js,Doms (del f k) js/\js.length<=ks.length:=by
 classical
 refine ⟨ks.filter (λx=>decide (x≠k)),⟨h.1.sublist List.filter_sublist,λx=>?_⟩,List.length_filter_le _ _⟩
 rw [List.mem_filter,h.2 x]
 by_cases hx:x=k
 ·subst hx;rw [zFs];simp
 ·rw [zB2 _ hx];simp [hx]
end
section
variable {α:Type} (key:α->ByteArray)
abbrev Rise (ys:List α):Prop:=ys.Pairwise (λa b=>sLt (key a) (key b)=true)
theorem zN2 (x:α):∀ ys:List α,Rise key ys->(∀ y∈ys,key y≠key x)->∃ zs,Rise key zs/\∀ z,z∈zs↔z=x∨z∈ys
 |[],_,_=>⟨[x],by simp,by simp⟩
 |y::ys,h,hk=>by
  obtain ⟨h1,h2⟩:=List.pairwise_cons.1 h
  by_cases c:sLt (key x) (key y)=true
  ·refine ⟨x::y::ys,List.pairwise_cons.2 ⟨λz hz=>?_,h⟩,by simp⟩
   rcases List.mem_cons.1 hz with e|e
   ·rw [e];exact c
   ·exact zHw c (h1 z e)
  ·have hyx:sLt (key y) (key x)=true:=zEr c (λe=>hk y (by simp) e.symm)
   obtain ⟨zs,h3,h4⟩:=zN2 x ys h2 (λz hz=>hk z (by simp [hz]))
   refine ⟨y::zs,List.pairwise_cons.2 ⟨λz hz=>?_,h3⟩,λz=>?_⟩
   ·rcases (h4 z).1 hz with e|e
    ·rw [e];exact hyx
    ·exact h1 z e
   ·rw [List.mem_cons,List.mem_cons,h4]
    constructor
    ·rintro (e|e|e)
     ·exact .inr (.inl e)
     ·exact .inl e
     ·exact .inr (.inr e)
    ·rintro (e|e|e)
     ·exact .inr (.inl e)
     ·exact .inl e
     ·exact .inr (.inr e)
theorem zM5:∀ xs:List α,xs.Pairwise (λa b=>key a≠key b)->∃ ys,Rise key ys/\∀ z,z∈ys↔z∈xs
 |[],_=>⟨[],by simp,by simp⟩
 |x::xs,h=>by
  obtain ⟨h1,h2⟩:=List.pairwise_cons.1 h
  obtain ⟨ys,h3,h4⟩:=zM5 xs h2
  obtain ⟨zs,h5,h6⟩:=zN2 key x ys h3 (λy hy e=>h1 y ((h4 y).1 hy) e.symm)
  exact ⟨zs,h5,λz=>by rw [h6,h4,List.mem_cons]⟩
theorem zO8 {xs ys:List α} (h1:Rise key xs) (k1:Rise key ys) (hm:∀ x,x∈xs↔x∈ys):xs=ys:=by
 induction xs generalizing ys with
 |nil=>cases ys with
  |nil=>rfl
  |cons b ys=>exact absurd ((hm b).2 (by simp)) (by simp)
 |cons a xs ih=>
  cases ys with
  |nil=>exact absurd ((hm a).1 (by simp)) (by simp)
  |cons b ys=>
   obtain ⟨h2,h3⟩:=List.pairwise_cons.1 h1
   obtain ⟨k2,k3⟩:=List.pairwise_cons.1 k1
   have hab:a=b:=by
    rcases List.mem_cons.1 ((hm a).1 (by simp)) with e|e
    ·exact e
    ·rcases List.mem_cons.1 ((hm b).2 (by simp)) with e'|e'
     ·exact e'.symm
     ·exact absurd (h2 b e') (zHB (k2 a e))
   subst hab
   rw [ih h3 k3 (λx=>?_)]
   constructor
   ·intro hx
    rcases List.mem_cons.1 ((hm x).1 (by simp [hx])) with e|e
    ·subst e;exact absurd (h2 x hx) (zAs _)
    ·exact e
   ·intro hx
    rcases List.mem_cons.1 ((hm x).2 (by simp [hx])) with e|e
    ·subst e;exact absurd (k2 x hx) (zAs _)
    ·exact e
end
open Classical in
noncomputable def zFt (f:ByteArray->Option Wri):List Wri:=if h:∃ ys,zE9 f ys then h.choose else []
theorem zGB {f:ByteArray->Option Wri} {ys:List Wri} (h:zE9 f ys):zFt f=ys:=by
 have:∃ ys,zE9 f ys:=⟨ys,h⟩
 unfold zFt;rw [dif_pos this];exact this.choose_spec.one h
theorem zMB {f:ByteArray->Option Wri} {ks:List ByteArray} (hd:Doms f ks) (hk:∀ k x,f k=some x->x.Key=k):zE9 f (zFt f)/\(zFt f).length=ks.length:=by
 have hnd:(ks.filterMap f).Pairwise (λx y=>x.Key≠y.Key):=by
  rw [List.pairwise_filterMap]
  refine hd.1.imp λ{a b} hab x hx y hy e=>hab ?_
  rw [← hk a x hx,← hk b y hy,e]
 obtain ⟨ys,h1,h2⟩:=zM5 (λx:Wri=>x.Key) _ hnd
 have hS:zE9 f ys:=⟨h1,λx=>by
  rw [h2,List.mem_filterMap]
  constructor
  ·rintro ⟨k,_,h⟩
   rw [hk k x h];exact h
  ·exact λh=>⟨x.Key,(hd.2 _).2 ⟨x,h⟩,h⟩⟩
 rw [zGB hS]
 refine ⟨hS,?_⟩
 rw [← zGg f ks λk hk'=>(hd.2 k).1 hk']
 refine Nat.le_antisymm (zFr ?_ λx hx=>(h2 x).1 hx) (zFr ?_ λx hx=>(h2 x).2 hx)
 ·exact h1.imp λ{a b} h e=>by subst e;exact zAs _ h
 ·exact hnd.imp λ{a b} h e=>h (by rw [e])
theorem zE9.keys {f:ByteArray->Option Wri} {ys:List Wri} (h:zE9 f ys):(zEm ys).Nodup:=by
 unfold zEm
 rw [List.Nodup,List.pairwise_map]
 exact h.1.imp λ{a b} h e=>by rw [e] at h;exact zAs _ h
def zGD (f:ByteArray->Option ByteArray) (ys:List Pai):Prop:=Rise (λp:Pai=>p.Key) ys/\∀ p:Pai,p∈ys↔f p.Key=some p.Val
theorem zGD.one {f:ByteArray->Option ByteArray} {xs ys:List Pai} (h:zGD f xs) (k:zGD f ys):xs=ys:=zO8 _ h.1 k.1 λx=>by rw [h.2,k.2]
open Classical in
noncomputable def zJm (f:ByteArray->Option ByteArray):List Pai:=if h:∃ ys,zGD f ys then h.choose else []
theorem zMh {f:ByteArray->Option ByteArray} {ys:List Pai} (h:zGD f ys):zJm f=ys:=by
 have:∃ ys,zGD f ys:=⟨ys,h⟩
 unfold zJm;rw [dif_pos this];exact this.choose_spec.one h
def val (l:List Ver) (key:ByteArray) (T:Int):Option ByteArray:=match sees l key T with
 |none=>none
 |some x=>if x.Gone=true then none else some x.Val
theorem zPH {l:List Ver} {low:Int} (h:zD1 l low) (key:ByteArray) (T:Int):outV (sees l key T)=((val l key T).getD noB,(val l key T).isSome):=by
 unfold val
 cases hs:sees l key T with
 |none=>rfl
 |some x=>
  have hm:=h.made (zI3 hs).1
  cases hg:x.Gone
  ·simp [outV,hg]
  ·simp [outV,hg,hm.gone hg]
def ovl (wr:ByteArray->Option Wri) (f:ByteArray->Option ByteArray) (key:ByteArray):Option ByteArray:=match wr key with
 |some x=>if x.Gone=true then none else some x.Val
 |none=>f key
structure TxOk (t:Tx):Prop where
 few:Few t
 keyed:zKi t
 short:∀ k x,t.wr k=some x->¬ zBI x
 bare:∀ k x,t.wr k=some x->x.Gone=true->x.Val=noB
 rds:t.reads.length<=256
structure Inv (s:St):Prop where
 good:zD1 s.l s.low
 lo:1<=s.low
 lonow:s.low<=s.now
 past:∀ x∈s.l,x.At<=s.now
 giv:0<=s.given
 dom:∃ ks,Doms s.tx ks/\ks.length<=16
 num:∀ n t,s.tx n=some t->1<=n/\n<=s.given
 tim:∀ n t,s.tx n=some t->s.low<=t.began/\t.began<=s.now
 txok:∀ n t,s.tx n=some t->TxOk t
theorem Inv.free {s:St} (h:Inv s):s.tx (s.given+1)=none:=by
 cases ht:s.tx (s.given+1) with
 |none=>rfl
 |some t=>have:=h.num _ t ht;omega
abbrev maxT:Int:=2305843009213693952
theorem zN0 (s:St):TxOk (zGq s):=⟨⟨[],⟨List.nodup_nil,λk=>by simp [zGq]⟩,by simp⟩,λk x h=>(nomatch h),λk x h=>(nomatch h),λk x h=>(nomatch h),by simp [zGq]⟩
theorem zNp {s:St} (h:Inv s) (hc:cnt s.tx<16):Inv (zGS s) where
 good:=h.good
 lo:=h.lo
 lonow:=h.lonow
 past:=h.past
 giv:=by show 0<=s.given+1;have:=h.giv;omega
 dom:=by
  obtain ⟨ks,hd,hl⟩:=h.dom
  rw [zJM hd] at hc
  obtain ⟨js,h1,h2,_⟩:=zJ2 hd (s.given+1) (zGq s)
  exact ⟨js,h1,by omega⟩
 num n t ht:=by
  show 1<=n/\n<=s.given+1
  have hg:=h.giv
  by_cases hn:n=s.given+1
  ·omega
  ·have:=h.num n t (by rw [← yv s.tx (zGq s) hn];exact ht);omega
 tim n t ht:=by
  show s.low<=t.began/\t.began<=s.now
  by_cases hn:n=s.given+1
  ·subst hn
   have h1:upd s.tx (s.given+1) (zGq s) (s.given+1)=some t:=ht
   rw [Yf] at h1;cases h1
   exact ⟨h.lonow,Int.le_refl _⟩
  ·exact h.tim n t (by rw [← yv s.tx (zGq s) hn];exact ht)
 txok n t ht:=by
  by_cases hn:n=s.given+1
  ·subst hn
   have h1:upd s.tx (s.given+1) (zGq s) (s.given+1)=some t:=ht
   rw [Yf] at h1;cases h1
   exact zN0 s
  ·exact h.txok n t (by rw [← yv s.tx (zGq s) hn];exact ht)
theorem zJI {s:St} (h:Inv s) {n:Int} {t t':Tx} (ht:s.tx n=some t) (hb:t'.began=t.began) (hk:TxOk t'):Inv (setTx s n t') where
 good:=h.good
 lo:=h.lo
 lonow:=h.lonow
 past:=h.past
 giv:=h.giv
 dom:=by
  obtain ⟨ks,hd,hl⟩:=h.dom
  obtain ⟨js,h1,_,h2⟩:=zJ2 hd n t'
  exact ⟨js,h1,by rw [h2 (by rw [ht];simp)];exact hl⟩
 num m u hu:=by
  show 1<=m/\m<=s.given
  by_cases hm:m=n
  ·subst hm;exact h.num _ t ht
  ·exact h.num m u (by rw [← yv s.tx t' hm];exact hu)
 tim m u hu:=by
  show s.low<=u.began/\u.began<=s.now
  by_cases hm:m=n
  ·subst hm
   have h1:upd s.tx m t' m=some u:=hu
   rw [Yf] at h1;cases h1
   rw [hb];exact h.tim _ t ht
  ·exact h.tim m u (by rw [← yv s.tx t' hm];exact hu)
 txok m u hu:=by
  by_cases hm:m=n
  ·subst hm
   have h1:upd s.tx m t' m=some u:=hu
   rw [Yf] at h1;cases h1;exact hk
  ·exact h.txok m u (by rw [← yv s.tx t' hm];exact hu)
theorem zM4 {t:Tx} (h:TxOk t) (hl:t.reads.length<256) (x:Spn):TxOk (addR t x):=⟨h.few,h.keyed,h.short,h.bare,by simp [addR];omega⟩
theorem zPT {t:Tx} (h:TxOk t) {x:Wri} (hx:¬ zBI x) (hb:x.Gone=true->x.Val=noB) (hl:t.wr x.Key=none->cnt t.wr<256):TxOk (putW t x) where
 few:=by
  obtain ⟨ks,hd,hk⟩:=h.few
  obtain ⟨js,h1,h2,h3⟩:=zJ2 hd x.Key x
  refine ⟨js,h1,?_⟩
  by_cases hn:t.wr x.Key=none
  ·have:=hl hn;rw [zJM hd] at this;omega
  ·rw [h3 hn];exact hk
 keyed k y hy:=by
  have h1:upd t.wr x.Key x k=some y:=hy
  by_cases hk:k=x.Key
  ·subst hk;rw [Yf] at h1;cases h1;rfl
  ·rw [yv _ _ hk] at h1;exact h.keyed k y h1
 short k y hy:=by
  have h1:upd t.wr x.Key x k=some y:=hy
  by_cases hk:k=x.Key
  ·subst hk;rw [Yf] at h1;cases h1;exact hx
  ·rw [yv _ _ hk] at h1;exact h.short k y h1
 bare k y hy:=by
  have h1:upd t.wr x.Key x k=some y:=hy
  by_cases hk:k=x.Key
  ·subst hk;rw [Yf] at h1;cases h1;exact hb
  ·rw [yv _ _ hk] at h1;exact h.bare k y h1
 rds:=h.rds
theorem zPR {s:St} (h:Inv s) (hn:s.now<=maxT) (n:Int):∃ lo,zGd (delTx s n) lo/\s.low<=lo/\lo<=s.now/\zBR s n={delTx s n with l:=swp lo s.l,low:=lo}:=by
 obtain ⟨ks,hd,_⟩:=h.dom
 obtain ⟨js,hj,_⟩:=zML hd n
 obtain ⟨lo,hlo⟩:=zL8 (s:=delTx s n) hj
 have h1:lo<=s.now:=hlo.now
 have h2:s.low<=lo:=by
  rcases hlo.hit with e|⟨m,t,ht,e⟩
  ·rw [e];exact h.lonow
  ·have hm:m≠n:=λe'=>by subst e';simp [delTx,zFs] at ht
   have ht':s.tx m=some t:=by simpa [delTx,zB2 _ hm] using ht
   rw [e];exact (h.tim m t ht').1
 have hv:zDP (delTx s n).l (delTx s n).low lo=(swp lo s.l,lo,0):=zNo h.good h2 (by unfold maxT at hn;omega)
 refine ⟨lo,hlo,h2,h1,?_⟩
 unfold zBR zJ9
 rw [← hlo.eq,hv]
 rfl
theorem zPS {s:St} {n m:Int} {t:Tx} (h:(zBR s n).tx m=some t):m≠n/\s.tx m=some t:=by
 rw [zMM] at h
 have hm:m≠n:=λe=>by subst e;rw [zFs] at h;cases h
 exact ⟨hm,by rw [zB2 _ hm] at h;exact h⟩
theorem zIk {s:St} (h:Inv s) (hn:s.now<=maxT) (n:Int):Inv (zBR s n):=by
 obtain ⟨lo,hlo,h1,h2,he⟩:=zPR h hn n
 have htx:∀ m t,(zBR s n).tx m=some t->s.tx m=some t:=λm t ht=>(zPS ht).2
 have h4:=h.lo
 refine ⟨?_,?_,?_,?_,?_,?_,?_,?_,λm t ht=>h.txok m t (htx m t ht)⟩
 ·rw [he];exact zOy h.good (by unfold maxT at hn;omega)
 ·rw [he];show 1<=lo;omega
 ·rw [he];exact h2
 ·rw [he];exact λx hx=>h.past x ((zJf lo s.l).subset hx)
 ·rw [he];exact h.giv
 ·obtain ⟨ks,hd,hl⟩:=h.dom
  obtain ⟨js,hj,hl'⟩:=zML hd n
  rw [he];exact ⟨js,hj,by omega⟩
 ·intro m t ht
  have:=h.num m t (htx m t ht)
  rw [he];exact this
 ·intro m t ht
  have h3:=h.tim m t (htx m t ht)
  rw [he] at ht ⊢
  exact ⟨hlo.all m t ht,h3.2⟩
theorem zPC {s:St} (h:Inv s) {ys:List Wri} (hp:pwhy s.l s.low ys (s.now+1)=0):Inv (putS s (putL s.l (s.now+1) ys,s.low,0)) where
 good:=zOp hp
 lo:=h.lo
 lonow:=by show s.low<=s.now+1;have:=h.lonow;omega
 past x hx:=by
  show x.At<=s.now+1
  rcases zKE.1 hx with h1|⟨w,_,rfl⟩
  ·have:=h.past x h1;omega
  ·exact Int.le_refl _
 giv:=h.giv
 dom:=h.dom
 num:=h.num
 tim n t ht:=by
  show s.low<=t.began/\t.began<=s.now+1
  have:=h.tim n t ht;omega
 txok:=h.txok
theorem zPi {s:St} (h:Inv s) {n:Int} {t:Tx} (ht:s.tx n=some t) {ys:List Wri} (hS:zE9 t.wr ys) (hn:s.now+1<=maxT):pwhy s.l s.low ys (s.now+1)=if 4096<s.l.length+ys.length then 3 else 0:=by
 have hk:=h.txok n t ht
 obtain ⟨ks,hd,hl⟩:=hk.few
 have hlen:ys.length=ks.length:=by have:=(zMB hd hk.keyed).2;rw [zGB hS] at this;exact this
 have hw:zGm ys=0:=zFA.2 ⟨by omega,λw hw=>hk.short w.Key w ((hS.2 w).1 hw),hS.keys⟩
 have h1:=h.lo
 have h2:=h.lonow
 unfold maxT at hn
 unfold pwhy
 rw [if_neg (by rw [zJE h.good];simp),if_neg (by simp [hw]),if_neg (by omega),if_neg (λh3=>by
  rcases h3 with h3|⟨x,h3,h4⟩
  ·omega
  ·have:=h.past x h3;omega)]
theorem Inv.sorts {s:St} (h:Inv s) {n:Int} {t:Tx} (ht:s.tx n=some t):zE9 t.wr (zFt t.wr):=by
 have hk:=h.txok n t ht
 obtain ⟨ks,hd,hl⟩:=hk.few
 exact (zMB hd hk.keyed).1
abbrev ans0:Ans:=⟨0,0,noB,false,[],[],0⟩
abbrev errA (e:Int):Ans:={ans0 with why:=e}
noncomputable def onTx (s:St) (n:Int) (f:Tx->St × Ans):St × Ans:=match s.tx n with
 |none=>(s,errA 11)
 |some t=>f t
noncomputable def zDS (s:St):St × Ans:=if 16<=cnt s.tx then (s,errA 3) else (zGS s,{ans0 with tx:=s.given+1})
noncomputable def getT (s:St) (n:Int) (key:ByteArray) (t:Tx):St × Ans:=
 if 256<key.size then (s,errA 4) else if 256<=t.reads.length then (s,errA 3)
 else (setTx s n (addR t (zIl key)),{ans0 with val:=(tget s t key).1,is:=(tget s t key).2.1,why:=(tget s t key).2.2})
noncomputable def getD (s:St) (n:Int) (key:ByteArray):St × Ans:=onTx s n (getT s n key)
abbrev zBD (fr to:ByteArray):Spn:=⟨fr,to,false⟩
noncomputable def zHV (s:St) (t:Tx) (key:ByteArray):Option ByteArray:=ovl t.wr (λk=>val s.l k t.began) key
def cut (x:Spn) (f:ByteArray->Option ByteArray) (key:ByteArray):Option ByteArray:=if zBr x key=true then f key else none
noncomputable def zMO (s:St) (n:Int) (fr to:ByteArray) (t:Tx):St × Ans:=
 if 256<=t.reads.length then (s,errA 3)
 else (setTx s n (addR t (zBD fr to)),{ans0 with pairs:=zJm (cut (zBD fr to) (zHV s t))})
noncomputable def zGu (s:St) (n:Int) (fr to:ByteArray):St × Ans:=onTx s n (zMO s n fr to)
open Classical in
noncomputable def zJN (s:St) (n:Int) (x:Wri) (t:Tx):St × Ans:=
 if zBI x then (s,errA 4) else if t.wr x.Key=none/\256<=cnt t.wr then (s,errA 3) else (setTx s n (putW t x),ans0)
noncomputable def zCV (s:St) (n:Int) (x:Wri):St × Ans:=onTx s n (zJN s n x)
open Classical in
noncomputable def zGa (s:St) (n:Int) (t:Tx):St × Ans:=
 if s.l.any (conf t)=true then (zBR s n,errA 10)
 else if (∀ k,t.wr k=none) then (zBR s n,{ans0 with time:=s.now})
 else if (vput s.l s.low (zFt t.wr) (s.now+1)).2.2≠0 then (zBR s n,errA (vput s.l s.low (zFt t.wr) (s.now+1)).2.2)
 else (zBR (putS s (vput s.l s.low (zFt t.wr) (s.now+1))) n,{ans0 with done:=zFt t.wr,time:=s.now+1})
noncomputable def zAO (s:St) (n:Int):St × Ans:=onTx s n (zGa s n)
noncomputable def zGe (s:St) (n:Int):St × Ans:=onTx s n λ_=>(zBR s n,ans0)
noncomputable def doS (s:St) (x:yK):St × Ans:=
 if x.Kind=1 then zDS s else if x.Kind=2 then getD s x.Tx x.Key else if x.Kind=3 then zGu s x.Tx x.Key x.To
 else if x.Kind=4 then zCV s x.Tx ⟨x.Key,x.Val,false⟩ else if x.Kind=5 then zCV s x.Tx ⟨x.Key,noB,true⟩
 else if x.Kind=6 then zAO s x.Tx else if x.Kind=7 then zGe s x.Tx else (s,errA 15)
inductive Eff (s:St) (x:yK):St->Ans->Prop
 |no (e:Int):e≠0->Eff s x s (errA e)
 |beg:x.Kind=1->cnt s.tx<16->Eff s x (zGS s) {ans0 with tx:=s.given+1}
 |get (t:Tx):x.Kind=2->s.tx x.Tx=some t->x.Key.size<=256->t.reads.length<256->Eff s x (setTx s x.Tx (addR t (zIl x.Key))) {ans0 with val:=(zHV s t x.Key).getD noB,is:=(zHV s t x.Key).isSome}
 |scan (t:Tx):x.Kind=3->s.tx x.Tx=some t->t.reads.length<256->Eff s x (setTx s x.Tx (addR t (zBD x.Key x.To))) {ans0 with pairs:=zJm (cut (zBD x.Key x.To) (zHV s t))}
 |write (t:Tx) (y:Wri):(x.Kind=4/\y=⟨x.Key,x.Val,false⟩∨x.Kind=5/\y=⟨x.Key,noB,true⟩)->s.tx x.Tx=some t->¬ zBI y->(t.wr y.Key=none->cnt t.wr<256)->Eff s x (setTx s x.Tx (putW t y)) ans0
 |abort (t:Tx):x.Kind=7->s.tx x.Tx=some t->Eff s x (zBR s x.Tx) ans0
 |fail (t:Tx) (e:Int):x.Kind=6->s.tx x.Tx=some t->e≠0->Eff s x (zBR s x.Tx) (errA e)
 |empty (t:Tx):x.Kind=6->s.tx x.Tx=some t->s.l.any (conf t)=false->(∀ k,t.wr k=none)->Eff s x (zBR s x.Tx) {ans0 with time:=s.now}
 |comm (t:Tx) (ys:List Wri):x.Kind=6->s.tx x.Tx=some t->s.l.any (conf t)=false->zE9 t.wr ys->(∃ k,t.wr k≠none)->pwhy s.l s.low ys (s.now+1)=0->Eff s x (zBR (putS s (putL s.l (s.now+1) ys,s.low,0)) x.Tx) {ans0 with done:=ys,time:=s.now+1}
theorem zNZ {s:St} (h:Inv s) {n:Int} {t:Tx} (ht:s.tx n=some t) (key:ByteArray):tget s t key=((zHV s t key).getD noB,(zHV s t key).isSome,0):=by
 unfold tget zHV ovl
 cases hw:t.wr key with
 |some x=>
  simp only
  cases hg:x.Gone
  ·simp
  ·simp [(h.txok n t ht).bare key x hw hg]
 |none=>
  simp only
  have h0:vask s.l s.low t.began=0:=zGs.2 ⟨h.good,(h.tim n t ht).1⟩
  unfold vget
  rw [if_neg (by simp [h0]),zPH h.good]
theorem zJ7 {s:St} {x:yK} {f:Tx->St × Ans} (h:∀ t,s.tx x.Tx=some t->Eff s x (f t).1 (f t).2):Eff s x (onTx s x.Tx f).1 (onTx s x.Tx f).2:=by
 unfold onTx
 cases ht:s.tx x.Tx with
 |none=>exact .no 11 (by decide)
 |some t=>exact h t ht
theorem zKk {s:St} {x:yK} {y:Wri} (hk:x.Kind=4/\y=⟨x.Key,x.Val,false⟩∨x.Kind=5/\y=⟨x.Key,noB,true⟩):Eff s x (zCV s x.Tx y).1 (zCV s x.Tx y).2:=by
 refine zJ7 λt ht=>?_
 unfold zJN
 split
 ·exact .no 4 (by decide)
 ·rename_i h1
  split
  ·exact .no 3 (by decide)
  ·rename_i h2
   exact .write t y hk ht h1 λh3=>Nat.not_le.1 λh4=>h2 ⟨h3,h4⟩
theorem zPK {s:St} (h:Inv s) (hn:s.now+1<=maxT) (x:yK):Eff s x (doS s x).1 (doS s x).2:=by
 unfold doS
 split
 ·rename_i k
  unfold zDS
  split
  ·exact .no 3 (by decide)
  ·exact .beg k (by omega)
 split
 ·rename_i k
  refine zJ7 λt ht=>?_
  unfold getT
  split
  ·exact .no 4 (by decide)
  ·split
   ·exact .no 3 (by decide)
   ·rw [zNZ h ht]
    exact .get t k ht (by omega) (by omega)
 split
 ·rename_i k
  refine zJ7 λt ht=>?_
  unfold zMO
  split
  ·exact .no 3 (by decide)
  ·exact .scan t k ht (by omega)
 split
 ·rename_i k;exact zKk (.inl ⟨k,rfl⟩)
 split
 ·rename_i k;exact zKk (.inr ⟨k,rfl⟩)
 split
 ·rename_i k
  refine zJ7 λt ht=>?_
  have hS:=h.sorts ht
  unfold zGa
  split
  ·exact .fail t 10 k ht (by decide)
  ·rename_i hc
   have hc:=Bool.eq_false_iff.2 hc
   split
   ·rename_i he;exact .empty t k ht hc he
   ·rename_i he
    split
    ·rename_i h3;exact .fail t _ k ht h3
    ·rename_i h3
     obtain ⟨h4,h5⟩:=zPa (Classical.not_not.1 h3)
     rw [h5]
     exact .comm t _ k ht hc hS (Classical.not_forall.1 he) h4
 split
 ·rename_i k;exact zJ7 λt ht=>.abort t k ht
 ·exact .no 15 (by decide)
theorem zPc {s s':St} {a:Ans} {x:yK} (h:Inv s) (hn:s.now+1<=maxT) (e:Eff s x s' a):Inv s':=by
 cases e with
 |no e _=>exact h
 |beg _ hc=>exact zNp h hc
 |get t _ ht _ hl=>exact zJI h ht rfl (zM4 (h.txok _ t ht) hl _)
 |scan t _ ht hl=>exact zJI h ht rfl (zM4 (h.txok _ t ht) hl _)
 |write t y hk ht hy hl=>exact zJI h ht rfl (zPT (h.txok _ t ht) hy (λhg=>by rcases hk with ⟨_,e⟩|⟨_,e⟩<;>rw [e] at hg ⊢;cases hg) hl)
 |abort t _ ht=>exact zIk h (by omega) _
 |fail t e _ ht _=>exact zIk h (by omega) _
 |empty t _ ht _ _=>exact zIk h (by omega) _
 |comm t ys _ ht _ _ _ hp=>exact zIk (zPC h hp) hn _
theorem zPZ {s s':St} {a:Ans} {x:yK} (e:Eff s x s' a):s.now<=s'.now/\s'.now<=s.now+1/\s.given<=s'.given/\s'.given<=s.given+1:=by
 have ho:∀ (u:St) n,(zBR u n).now=u.now/\(zBR u n).given=u.given:=λu n=>by unfold zBR zJ9;split<;>exact ⟨rfl,rfl⟩
 cases e with
 |no e _=>omega
 |beg _ hc=>show s.now<=s.now/\s.now<=s.now+1/\s.given<=s.given+1/\s.given+1<=s.given+1;omega
 |get t _ ht _ hl=>show s.now<=s.now/\s.now<=s.now+1/\s.given<=s.given/\s.given<=s.given+1;omega
 |scan t _ ht hl=>show s.now<=s.now/\s.now<=s.now+1/\s.given<=s.given/\s.given<=s.given+1;omega
 |write t y hk ht hy hl=>show s.now<=s.now/\s.now<=s.now+1/\s.given<=s.given/\s.given<=s.given+1;omega
 |abort t _ ht=>rw [(ho _ _).1,(ho _ _).2];omega
 |fail t e _ ht _=>rw [(ho _ _).1,(ho _ _).2];omega
 |empty t _ ht _ _=>rw [(ho _ _).1,(ho _ _).2];omega
 |comm t ys _ ht _ _ _ hp=>rw [(ho _ _).1,(ho _ _).2];show s.now<=s.now+1/\s.now+1<=s.now+1/\s.given<=s.given/\s.given<=s.given+1;omega
end Go.Proofs.YtealcoghiaeiiaaGreat.VG
set_option linter.unusedVariables false
namespace Go.Proofs.YtealcoghiaeiiaaGreat.VG
open Go.VB Go.Proofs Go.RowKit
theorem zMG (fr to key:ByteArray):zGb fr to key↔zBr (zBD fr to) key=false:=by
 unfold zGb zBr
 simp only [Bool.false_eq_true,if_false]
 cases h1:sLt key fr<;>cases h2:sLt key to<;>by_cases h3:to=noB<;>simp [h3]
end Go.Proofs.YtealcoghiaeiiaaGreat.VG
set_option linter.unusedVariables false
set_option linter.unusedSimpArgs false
namespace Go.Proofs.YtealcoghiaeiiaaGreat.VG
open Go.VB Go.Proofs
def zAD (x13:Sl) (Kl3:Sl->World->Prop) (v:Value) (x16:Option Addr) (x81:Bool) (w:World):Prop:=
 (x81=true->(opE zA zC (zN 34 (.pointer x16) 0) w (λx83 w=>opE zA za (zD 9 (.pointer x83)) w (λx84 w=>opE zA zC (zN 34 (.pointer x16) 1) w (λx85 w=>opE zA za (zD 9 (.pointer x85)) w (λx86 w=>opE zA zL.v (QO 66 [(0,(.string x84)),(1,(.string x86))].toArray) w (λx87 w=>opE zA Sl.v (zr 22 1 [(0,(zL.v x87))].toArray) w (λx88 w=>opE zA Sl.v (Builtin.append_ #[22,22] 22 [(Sl.v x13),(Sl.v x88)].toArray) w (λx89 w=>Kl3 x89 w)))))))))/\(x81=false->(Kl3 x13 w))
def zBj (Ret:Sl->Int->World->Prop) (x12:Option Addr) (x68:Option Addr) (x13:Sl) (w:World) (Kl3:Sl->World->Prop):Prop:=
 opE zA (zJg id id) (Instr.next (.pointer x68) false 0) w (λr_5 w=>(r_5=none->(Cl zA 46 [(Sl.v x13),(.func (.func 47) #[] #[])].toArray w (λe w=>e=.returned (.tuple [].toArray)/\(Ret x13 0 w))))/\(∀ k v,r_5=some (k,v)->(opE zA (λp:Value × Value=>.tuple [p.1,p.2].toArray) (Instr.entry (.pointer x68)) w (λx71 w=>opE zA zC (zh 34 true (.tuple #[])) w (λx16 w=>opU zA (zJ 34 (.pointer x16) x71.2) w (λw=>opE zA zC (zN 34 (.pointer x16) 2) w (λx73 w=>opE zA xh (zD 4 (.pointer x73)) w (λx74 w=>((!x74)=true->(opE zA z7.v (zD 103 (.pointer x12)) w (λx77 w=>opE zA zC (zN 34 (.pointer x16) 0) w (λx78 w=>opE zA za (zD 9 (.pointer x78)) w (λx79 w=>Cl zA 45 [(z7.v x77),(.string x79)].toArray w (λe w=>∃ (r_6:Bool),e=.returned (.bool r_6)/\(zAD x13 Kl3 v x16 r_6 w)))))))/\((!x74)=false->(zAD x13 Kl3 v x16 false w))))))))))
def zEz (x0:Option Addr) (x1:Int) (x2:ByteArray) (x3:ByteArray) (w:World) (Ret:Sl->Int->World->Prop):Prop:=
 Cl zA 36 [(.pointer x0),(.int .i64 x1)].toArray w (λe w=>∃ (r:Option Addr) (r_1:Int),e=.returned (.tuple [(.pointer r),(.int .i64 r_1)].toArray)/\(opE zA zC (zh 88 true (.tuple #[])) w (λx10 w=>opU zA (zJ 88 (.pointer x10) (.pointer r)) w (λw=>((r_1≠0)->(Ret Sl.none r_1 w))/\(¬ (r_1≠0)->(opE zA zC (zD 88 (.pointer x10)) w (λx28 w=>QU (.pointer x28)/\(opE zA zC (zN 92 (.pointer x28) 1) w (λx30 w=>opE zA Sl.v (zD 90 (.pointer x30)) w (λx31 w=>((256<=(x31.len:Int))->(Ret Sl.none 3 w))/\(¬ (256<=(x31.len:Int))->(opE zA z7.v (QO 103 [(0,(.string x2)),(1,(.string x3))].toArray) w (λx36 w=>opE zA zC (zh 103 true (.tuple #[])) w (λx12 w=>opU zA (zJ 103 (.pointer x12) (z7.v x36)) w (λw=>regC w (λC1 w=>opC C1 zA zC (zD 88 (.pointer x10)) (λx37=>opC C1 zA zC (zD 88 (.pointer x10)) (λx38=>QU (.pointer x38)/\(opC C1 zA zC (zN 92 (.pointer x38) 1) (λx40=>opC C1 zA Sl.v (zD 90 (.pointer x40)) (λx41=>opC C1 zA z7.v (zD 103 (.pointer x12)) (λx42=>opE zA Sl.v (zr 90 1 [(0,(z7.v x42))].toArray) w (λx43 w=>C1 w/\(opE zA Sl.v (Builtin.append_ #[90,90] 90 [(Sl.v x41),(Sl.v x43)].toArray) w (λx44 w=>C1 w/\(QU (.pointer x37)/\(opC C1 zA zC (zN 92 (.pointer x37) 1) (λx46=>opU zA (zJ 90 (.pointer x46) (Sl.v x44)) w (λw=>(regC w (λC2 w=>QU (.pointer x0)/\(opC C2 zA zC (zN 87 (.pointer x0) 0) (λx50=>opC C2 zA zP.v (zD 69 (.pointer x50)) (λx51=>opC C2 zA zC (zD 88 (.pointer x10)) (λx54=>QU (.pointer x54)/\(opC C2 zA zC (zN 92 (.pointer x54) 0) (λx56=>opC C2 zA (zU .u64) (zD 37 (.pointer x56)) (λx57=>Cl zA 42 [(zP.v x51),(.string x2),(.string x3),(.int .u64 x57)].toArray w (λe w=>∃ (r_2:Sl) (r_3:Int),e=.returned (.tuple [(Sl.v r_2),(.int .i64 r_3)].toArray)/\(C2 w/\(Cl zA 43 [(Sl.v r_2),(.func (.func 44) [].toArray [(.pointer x10)].toArray)].toArray w (λe w=>∃ (r_4:Sl),e=.returned (Sl.v r_4)/\(opE zA zC (zD 88 (.pointer x10)) w (λx64 w=>QU (.pointer x64)/\(opE zA zC (zN 92 (.pointer x64) 2) w (λx66 w=>opE zA Value.map (zD 89 (.pointer x66)) w (λx67 w=>opE zA zC (Instr.range 89 (.map x67)) w (λx68 w=>∃ (I:Sl->World->Prop) (μ:Sl->World->Nat),I r_4 w/\∀ (x13:Sl) w,I x13 w->zBj Ret x12 x68 x13 w (λx13' w'=>I x13' w'/\μ x13' w'<μ x13 w)))))))))))))))))))))))))))))))))))))))))))))))))
set_option maxRecDepth 100000 in
theorem zIE (x0:Option Addr) (x1:Int) (x2:ByteArray) (x3:ByteArray) (w:World) (Ret:Sl->Int->World->Prop) (H:zEz x0 x1 x2 x3 w Ret):Cl zA 17 [(.pointer x0),(.int .i64 x1),(.string x2),(.string x3)].toArray w (λe w'=>∃ (r0:Sl) (r1:Int),e=.returned (.tuple [(Sl.v r0),(.int .i64 r1)].toArray)/\Ret r0 r1 w'):=by
 unfold zEz at H
 refine zk 93 (zipE 0 [(.pointer x0),(.int .i64 x1),(.string x2),(.string x3)]) Tryz.func17 rfl rfl (by rfl) rfl ?_
 intro a g
 replace g:Sat [] 93 [(0,(.pointer x0)),(1,(.int .i64 x1)),(2,(.string x2)),(3,(.string x3))] a:=g
 refine zK (zE (g.as_ rfl λ_ g=>g.as_ rfl λ_ g=>zM (tn (zK (zE (g.mv rfl λ_ g=>g.mv rfl λ_ g=>g.call (zY g zKv rfl rfl) H λe w H=>?_))))))
 obtain ⟨r,r_1,rfl,H⟩:=H
 refine ⟨_,rfl,λ_ g=>(g.mv rfl λ_ g=>g.pur (zZ g rfl rfl) λ_ g=>g.pur (zZ g rfl rfl) λ_ g=>g.op (YJ) H λx10 w a H g=>g.opu (zT g rfl rfl) H λw a H g=>g.as_ rfl λ_ g=>zM (tn (zK (zW (zK (zE (g.mv rfl λ_ g=>g.pur (zFO g rfl rfl) λ_ g=>g.as_ rfl λ_ g=>zM (tn (zb g rfl (λhc=>?_) (λhc=>?_))))))))))⟩
 ·replace H:=H.1 hc
  exact zK (zE (g.mv rfl λ_ g=>g.as_ rfl λ_ g=>g.as_ rfl λ_ g=>zM (tn (zf (br (tr (Zg g rfl rfl rfl ⟨_,_,rfl,H⟩)))))))
 ·replace H:=H.2 hc
  refine zK (zE (g.op (zO g rfl) H λx28 w a H g=>g.pur (zd g rfl H.1) λ_ g=>?_))
  replace H:=H.2
  refine g.op (zR g rfl) H λx30 w a H g=>g.op (zO g rfl) H λx31 w a H g=>g.purR (λw=>Z7 g Tryz.underlying90 rfl) λ_ g=>g.pur (ZP g rfl rfl) λ_ g=>g.as_ rfl λ_ g=>zM (tn (zb g rfl (λhc=>?_) (λhc=>?_)))
  ·replace H:=H.1 hc
   exact zK (zE (g.as_ rfl λ_ g=>g.as_ rfl λ_ g=>zM (tn (zf (br (tr (Zg g rfl rfl rfl ⟨_,_,rfl,H⟩)))))))
  ·replace H:=H.2 hc
   refine zX (bn (tn (zK (zE (g.mv rfl λ_ g=>g.mv rfl λ_ g=>g.op (zAv g rfl) H λx36 w a H g=>g.op (YJ) H λx12 w a H g=>g.opu (zT g rfl rfl) H λw a H g=>zM (tn (zK (zNM 10 H 11 (λC1 w hC0 H=>g.ko 0 rfl hC0 (zO g rfl) H λx37 a H g=>g.ko 1 rfl hC0 (zO g rfl) H λx38 a H g=>g.kp 2 rfl hC0 (Qd (zd g rfl H.1)) λ_ g=>?_)))))))))
   replace H:=H.2
   refine g.ko 3 rfl hC0 (zR g rfl) H λx40 a H g=>g.ko 4 rfl hC0 (zO g rfl) H λx41 a H g=>g.ko 5 rfl hC0 (zO g rfl) H λx42 a H g=>WK.on 6 rfl ?_
   intro K hK
   refine g.wop (Zt g rfl) H λx43 w a H g=>hK _ _ ⟨H.1,?_⟩
   have hC1:=H.1
   replace H:=H.2
   refine WK.on 7 rfl ?_
   intro K hK
   refine g.wop (zEd g rfl) H λx44 w a H g=>hK _ _ ⟨H.1,?_⟩
   have hC2:=H.1
   replace H:=H.2
   refine g.kp 8 rfl hC2 (Qd (zd g rfl H.1)) λ_ g=>?_
   replace H:=H.2
   refine g.ko 9 rfl hC2 (zR g rfl) H λx46 a H g=>WK.la 10 rfl ?_
   intro K hK
   refine g.wopu (zT g rfl rfl) H λw a H g=>hK _ _ (WK.nil (by kernel_rfl) ((tn (zK (zNM 15 H 16 (λC2 w hC0 H=>g.kp 0 rfl hC0 (Qd (zQ g rfl)) λ_ g=>g.kp 1 rfl hC0 (Qd (zd g rfl H.1)) λ_ g=>?_))))))
   replace H:=H.2
   refine g.ko 2 rfl hC0 (zR g rfl) H λx50 a H g=>g.kp 4 rfl hC0 (Qd (zQ g rfl)) λ_ g=>g.kp 5 rfl hC0 (Qd (zQ g rfl)) λ_ g=>g.ko 3 rfl hC0 (zO g rfl) H λx51 a H g=>g.ko 6 rfl hC0 (zO g rfl) H λx54 a H g=>g.kp 7 rfl hC0 (Qd (zd g rfl H.1)) λ_ g=>?_
   replace H:=H.2
   refine g.ko 8 rfl hC0 (zR g rfl) H λx56 a H g=>g.ko 9 rfl hC0 (zO g rfl) H λx57 a H g=>WK.on 10 rfl ?_
   intro K hK
   refine g.wcall (zY g zQx rfl rfl) H λe w H=>?_
   obtain ⟨r_2,r_3,rfl,H⟩:=H
   refine ⟨_,rfl,λ_ g=>(hK _ _ ⟨H.1,?_⟩)⟩
   have hC1:=H.1
   replace H:=H.2
   refine g.kp 11 rfl hC1 (Qd (zQ g rfl)) λ_ g=>g.kp 12 rfl hC1 (Qd (zZ g rfl rfl)) λ_ g=>g.kp 13 rfl hC1 (Qd (zZ g rfl rfl)) λ_ g=>g.kp 14 rfl hC1 (Qd (Y1 g rfl)) λ_ g=>g.kp 15 rfl hC1 (Qd (Y1 g rfl)) λ_ g=>WK.nil (by kernel_rfl) ((tn (zK (zE (g.mv rfl λ_ g=>g.pur (zFi g rfl rfl) λ_ g=>g.call (zY g zRb rfl rfl) H λe w H=>?_)))))
   obtain ⟨r_4,rfl,H⟩:=H
   refine ⟨_,rfl,λ_ g=>(g.as_ rfl λ_ g=>zM (tn (zK (zK (zE (g.op (zO g rfl) H λx64 w a H g=>g.pur (zd g rfl H.1) λ_ g=>?_))))))⟩
   replace H:=H.2
   refine g.op (zR g rfl) H λx66 w a H g=>g.op (zO g rfl) H λx67 w a H g=>g.op (zJd g rfl) H λx68 w a H g=>zM (tn (zW ?_))
   obtain ⟨I_l3,μ_l3,h0,hb⟩:=H
   refine yG (ds:=[]) (N:=93) (σ:=Sl) (λs=>[(13,(Sl.v s)),(12,(.pointer x12)),(68,(.pointer x68))]) (λs w=>I_l3 s w) (λs w=>μ_l3 s w) r_4 h0 (g.wk) ?_
   intro x13 w a hI g
   try dsimp only at hI g
   obtain ⟨Kl3,hK_l3⟩:∃ K:Sl->World->Prop,K=(λx13' w'=>I_l3 x13' w'/\μ_l3 x13' w'<μ_l3 x13 w):=⟨_,rfl⟩
   have H:zBj Ret x12 x68 x13 w Kl3:=by rw [hK_l3];exact hb x13 w hI
   clear hb h0 hI
   unfold zBj at H
   refine zK (zE (g.op (zKz g rfl) H λr_5 w a H g=>?_))
   rcases r_5 with _|⟨k,v⟩
   ·replace H:=H.1 rfl
    refine g.pur (zZ g rfl rfl) λ_ g=>zM (tn (zK (ze g rfl (λh=>nomatch h) (λ_=>z9 (te (te (be (tn (zK (zE (g.mv rfl λ_ g=>g.call (zY g zQ1 rfl rfl) H λe w H=>?_)))))))))))
    obtain ⟨rfl,H⟩:=H
    exact ⟨_,rfl,λ_ g=>(zM (tn (zK (zE (g.mv rfl λ_ g=>g.as_ rfl λ_ g=>g.as_ rfl λ_ g=>zM (tn (zf (Zg g rfl rfl rfl ⟨_,_,rfl,H⟩))))))))⟩
   ·replace H:=H.2 _ _ rfl
    refine g.pur (zZ g rfl rfl) λ_ g=>zM (tn (zK (ze g rfl (λ_=>zX (tn (zW (zK (zE (g.op (zJi g rfl) H λx71 w a H g=>g.pur (zZ g rfl rfl) λ_ g=>g.op (YJ) H λx16 w a H g=>g.opu (zT g rfl rfl) H λw a H g=>zM (tn (zK (zE (g.op (zR g rfl) H λx73 w a H g=>g.op (zO g rfl) H λx74 w a H g=>g.pur (zAL g rfl) λ_ g=>g.mv rfl λ_ g=>WL.join (ds:=[]) (N:=93) (σ:=Bool) (λs=>[(81,(.bool s)),(12,(.pointer x12)),(13,(Sl.v x13)),(16,(.pointer x16)),(68,(.pointer x68))]) (λs w=>zAD x13 Kl3 v x16 s w) 5 ?_ (λhr4=>?_))))))))))) (λh=>nomatch h))))
    ·intro x81 w a H g
     try dsimp only at H g
     unfold zAD at H
     refine zM (tn (ze g rfl (λhc=>?_) (λhc=>?_)))
     ·replace H:=H.1 hc
      refine zE (g.mv rfl λ_ g=>g.op (zR g rfl) H λx83 w a H g=>g.op (zO g rfl) H λx84 w a H g=>g.op (zR g rfl) H λx85 w a H g=>g.op (zO g rfl) H λx86 w a H g=>g.op (zAv g rfl) H λx87 w a H g=>g.op (Zt g rfl) H λx88 w a H g=>g.op (zEd g rfl) H λx89 w a H g=>g.as_ rfl λ_ g=>?_)
      rw [hK_l3] at H
      exact zM (bn (tn ⟨x89,g.wk,H⟩))
     ·replace H:=H.2 hc
      rw [hK_l3] at H
      exact zX (bn (tn ⟨x13,g.wk,H⟩))
    ·rcases Bool.eq_false_or_eq_true ((!x74)) with hbr4|hbr4
     ·replace H:=H.1 hbr4
      replace g:=g.bool (b:=true) (t:=76) rfl (hbr4)
      refine g.on (by rfl) (by rfl) (g.op (zO g rfl) H λx77 w a H g=>g.on (by rfl) (by rfl) (g.op (zR g rfl) H λx78 w a H g=>g.on (by rfl) (by rfl) (g.op (zO g rfl) H λx79 w a H g=>g.on (by rfl) (by rfl) (g.call (zY g zPz rfl rfl) H λe w H=>?_))))
      obtain ⟨r_6,rfl,H⟩:=H
      exact ⟨_,rfl,λ_ g=>(g.pur (zo g rfl rfl) λ_ g=>hr4 r_6 _ _ H (g.wk))⟩
     ·replace H:=H.2 hbr4
      replace g:=g.bool (b:=false) (t:=76) rfl (hbr4)
      exact g.off (by rfl) (by rfl) (by decide) (λ_ g=>g.off (by rfl) (by rfl) (by decide) (λ_ g=>g.off (by rfl) (by rfl) (by decide) (λ_ g=>g.off (by rfl) (by rfl) (by decide) (λ_ g=>g.pur (zn g rfl rfl) λ_ g=>hr4 false _ _ H (g.wk)))))
def zDx (x0:zL) (x1:Option Addr) (w:World) (Ret:Bool->World->Prop):Prop:=
 opE zA zC (Instr.box 66 (zL.v x0)) w (λx2 w=>regC w (λC1 w=>opC C1 zA zC (zN 66 (.pointer x2) 0) (λx11=>opC C1 zA zC (zD 88 (.pointer x1)) (λx7=>QU (.pointer x7)/\(opC C1 zA zC (zN 92 (.pointer x7) 2) (λx9=>opC C1 zA Value.map (zD 89 (.pointer x9)) (λx10=>opC C1 zA za (zD 9 (.pointer x11)) (λx12=>opC C1 zA (λp:zI × Bool=>.tuple [(zI.v p.1),(.bool p.2)].toArray) (Instr.lookup 89 (.map x10) (.string x12) true) (λx13=>opE zA zC (zh 34 true (.tuple #[])) w (λx4 w=>C1 w/\(opU zA (zJ 34 (.pointer x4) (zI.v x13.1)) w (λw=>C1 w/\(Ret x13.2 w)))))))))))))
set_option maxRecDepth 100000 in
theorem zHO (x0:zL) (x1:Option Addr) (w:World) (Ret:Bool->World->Prop) (H:zDx x0 x1 w Ret):Cl zA 44 [(zL.v x0),(.pointer x1)].toArray w (λe w'=>∃ (r0:Bool),e=.returned (.bool r0)/\Ret r0 w'):=by
 unfold zDx at H
 refine zk 17 (zipE 0 [(zL.v x0),(.pointer x1)]) Tryz.func44 rfl rfl (by rfl) rfl ?_
 intro a g
 replace g:Sat [] 17 [(0,(zL.v x0)),(1,(.pointer x1))] a:=g
 refine zK (zE (g.op (zBN g rfl) H λx2 w a H g=>g.as_ rfl λ_ g=>zM (tn (zK (zNM 12 H 13 (λC1 w hC0 H=>g.ko 4 rfl hC0 (zR g rfl) H λx11 a H g=>g.ko 0 rfl hC0 (zO g rfl) H λx7 a H g=>g.kp 1 rfl hC0 (Qd (zd g rfl H.1)) λ_ g=>?_))))))
 replace H:=H.2
 refine g.ko 2 rfl hC0 (zR g rfl) H λx9 a H g=>g.ko 3 rfl hC0 (zO g rfl) H λx10 a H g=>g.ko 5 rfl hC0 (zO g rfl) H λx12 a H g=>g.ko 6 rfl hC0 (zHg g rfl rfl) H λx13 a H g=>g.kp 7 rfl hC0 (Qd (zQ g rfl)) λ_ g=>g.kp 8 rfl hC0 (Qd (zZ g rfl rfl)) λ_ g=>g.kp 9 rfl hC0 (Qd (zZ g rfl rfl)) λ_ g=>WK.on 10 rfl ?_
 intro K hK
 refine g.wop (YJ) H λx4 w a H g=>hK _ _ ⟨H.1,?_⟩
 have hC1:=H.1
 replace H:=H.2
 refine WK.on 11 rfl ?_
 intro K hK
 refine g.wopu (zT g rfl rfl) H λw a H g=>hK _ _ ⟨H.1,?_⟩
 have hC2:=H.1
 replace H:=H.2
 exact g.kp 12 rfl hC2 (Qd (Y1 g rfl)) λ_ g=>WK.nil (by kernel_rfl) ((tn (zK (zE (g.mv rfl λ_ g=>g.as_ rfl λ_ g=>zM (tn (zf (zv g rfl rfl ⟨_,rfl,H⟩))))))))
def zDy (x0:zL) (x1:zL) (w:World) (Ret:Int->World->Prop):Prop:=
 opE zA zC (Instr.box 66 (zL.v x0)) w (λx2 w=>opE zA zC (Instr.box 66 (zL.v x1)) w (λx3 w=>opE zA zC (zN 66 (.pointer x2) 0) w (λx5 w=>opE zA za (zD 9 (.pointer x5)) w (λx6 w=>opE zA zC (zN 66 (.pointer x3) 0) w (λx7 w=>opE zA za (zD 9 (.pointer x7)) w (λx8 w=>Cl zA 48 [(.string x6),(.string x8)].toArray w (λe w=>∃ (r:Int),e=.returned (.int .i64 r)/\(Ret r w))))))))
set_option maxRecDepth 100000 in
theorem zHM (x0:zL) (x1:zL) (w:World) (Ret:Int->World->Prop) (H:zDy x0 x1 w Ret):Cl zA 47 [(zL.v x0),(zL.v x1)].toArray w (λe w'=>∃ (r0:Int),e=.returned (.int .i64 r0)/\Ret r0 w'):=by
 unfold zDy at H
 refine zk 10 (zipE 0 [(zL.v x0),(zL.v x1)]) Tryz.func47 rfl rfl (by rfl) rfl ?_
 intro a g
 replace g:Sat [] 10 [(0,(zL.v x0)),(1,(zL.v x1))] a:=g
 refine zK (zE (g.op (zBN g rfl) H λx2 w a H g=>g.op (zBN g rfl) H λx3 w a H g=>g.as_ rfl λ_ g=>zM (tn (zK (zE (g.op (zR g rfl) H λx5 w a H g=>g.op (zO g rfl) H λx6 w a H g=>g.op (zR g rfl) H λx7 w a H g=>g.op (zO g rfl) H λx8 w a H g=>g.call (zY g zOx rfl rfl) H λe w H=>?_))))))
 obtain ⟨r,rfl,H⟩:=H
 exact ⟨_,rfl,λ_ g=>(g.as_ rfl λ_ g=>zM (tn (zf (zv g rfl rfl ⟨_,rfl,H⟩))))⟩
end Go.Proofs.YtealcoghiaeiiaaGreat.VG
set_option linter.unusedVariables false
set_option linter.unusedSimpArgs false
namespace Go.VB
open Go.RowKit
section
variable {P:Program} {w:World} {α:Type} {c:α->List Value} {n e t base:Nat} {s:Sl}
theorem OwnS.cut {xs:List α} (hO:OwnS c n e base w s xs) (hc:∀ x,(c x).length=n) {i:Nat} (hi:i<=xs.length) (hpos:0<xs.length):OwnS c n e base w (s.sub 0 i n) (xs.take i):=by
 obtain ⟨g,cap,cur,rfl,hh,hcap,hm,hsz,htk,hb⟩:=hO.at hpos
 have hsmall:=hO.small
 simp only at hsmall
 have e1:(⟨some ⟨g,0,none⟩,xs.length,cap⟩:Sl).sub 0 i n=⟨some ⟨g,0,none⟩,i,cap⟩:=by
  unfold Sl.sub;simp [show ¬ cap=0 by omega,Addr.add]
 rw [e1]
 refine ⟨by simp;omega,by show i<=_;omega,?_,.inr ⟨g,cap,cur,rfl,hb,hh,by show i<=cap;omega,hm,hsz,?_⟩⟩
 ·rw [zGx hc,List.length_take];show min i xs.length*n=i*n;rw [Nat.min_eq_left hi]
 ·have h2:xs=xs.take i++xs.drop i:=(List.take_append_drop i xs).symm
  have h3:(xs.flatMap c).take (i*n)=(xs.take i).flatMap c:=by
   conv=>lhs;rw [h2,List.flatMap_append]
   have hl:((xs.take i).flatMap c).length=i*n:=by rw [zGx hc,List.length_take,Nat.min_eq_left hi]
   rw [List.take_append,List.take_of_length_le (by omega),hl];simp
  rw [← h3,← htk,List.take_take,Nat.min_eq_left (Nat.mul_le_mul_right _ hi)]
theorem zMb {xs:List α} (hO:OwnS c n e base w s xs) (hc:∀ x,(c x).length=n) (hu:P.underlying t=some (.slice e)) (hs:∀ w,(sizeOf e).run P w=.ok n w)
  {z:Value} (hz:∀ w,(zeroValue e).run P w=.ok z w) (hzn:z.cells.size=n) (hz1:z.cells.toList.all (·.oneCell')=true) (hn:0<n) {i:Nat} (hi:i<xs.length) {ty:TypeId} {k:Sl->World->Prop}
  (H:∀ w',OwnS c n e base w' (s.sub 0 i n) (xs.take i)->w.grownBy w' (Sl.v s).ownBlock->(Sl.v (s.sub 0 i n)).ownBlock=(Sl.v s).ownBlock->k (s.sub 0 i n) w'):
  opE P Sl.v (Instr.sliceAt t (Sl.v s) (some (.int .i64 (i:Int))) none none) w (λy w=>opE P (λ_:Unit=>.tuple #[]) (Builtin.clear_ #[t] ty [Sl.v y].toArray) w (λz w=>opE P Sl.v (Instr.sliceAt t (Sl.v s) none (some (.int .i64 (i:Int))) none) w k)):=by
 obtain ⟨g,cap,cur,rfl,hh,hcap,hm,hsz,htk,hb⟩:=hO.at (by omega)
 have hsmall:=hO.small
 simp only at hsmall
 have e1:(⟨some ⟨g,0,none⟩,xs.length,cap⟩:Sl).sub 0 i n=⟨some ⟨g,0,none⟩,i,cap⟩:=by
  unfold Sl.sub;simp [show ¬ cap=0 by omega,Addr.add]
 refine ⟨_,w,zOr hu hs (by show i<=xs.length;omega),?_⟩
 have e2:(⟨some ⟨g,0,none⟩,xs.length,cap⟩:Sl).sub i xs.length n=⟨some ⟨g,i*n,none⟩,xs.length - i,cap - i⟩:=by
  unfold Sl.sub
  simp only
  rw [if_neg (by omega)]
  simp [add_plain']
 rw [e2]
 obtain ⟨m,hm1⟩:∃ m,xs.length - i=m+1:=⟨xs.length - i - 1,by omega⟩
 let zs:List Value:=(Builtin.zeroCells z.cells (m+1)).toList
 have hzl:zs.length=(m+1)*n:=by show (Builtin.zeroCells z.cells (m+1)).toList.length=_;rw [Array.length_toList,size_zeroCells,hzn]
 have hz2:∀ v∈zs,v.oneCell'=true:=λv hv=>by
  have hv':v∈Builtin.zeroCells z.cells (m+1):=by simpa [zs] using hv
  unfold Builtin.zeroCells at hv'
  obtain ⟨j,hj,rfl⟩:=Array.mem_map.1 hv'
  have hlt:j % z.cells.size<z.cells.size:=Nat.mod_lt _ (by omega)
  rw [getElem!_pos z.cells _ hlt]
  rw [List.all_eq_true] at hz1
  exact hz1 _ (by simp)
 have hin:i*n+zs.length<=cur.size:=by
  rw [hzl,hsz,← Nat.add_mul];exact Nat.mul_le_mul_right _ (by omega)
 have hst:=run_storeCells_at (P:=P) g (i*n) e zs 0 cur w hh (by simpa using hin) hz2
 have hcl:(Builtin.clear_ #[t] ty [Sl.v ⟨some ⟨g,i*n,none⟩,xs.length - i,cap - i⟩].toArray).run P w=.ok (.tuple #[]) (w.setRow g (cur.toList.take (i*n)++zs++cur.toList.drop (i*n+zs.length)).toArray):=by
  have hst':(storeCells ⟨g,i*n,none⟩ (Builtin.zeroCells z.cells (m+1)).toList).run P w=.ok () (w.setRow g (cur.toList.take (i*n)++zs++cur.toList.drop (i*n+zs.length)).toArray):=by simpa using hst
  rw [hm1]
  simp only [Builtin.clear_,Sl.v]
  simp [run_underlying hu,hz w,hst']
 refine ⟨(),_,hcl,?_⟩
 refine ⟨_,_,zOD hu hs (by show i<=cap;omega),?_⟩
 refine H _ ?_ (zFI w g _) (by rw [e1];rfl)
 rw [e1]
 have h1:=hO.cut hc (i:=i) (by omega) (by omega)
 rw [e1] at h1
 refine ⟨h1.len,h1.small,h1.row.1,.inr ⟨g,cap,_,rfl,hb,zFo hh,by show i<=cap;omega,hm,?_,?_⟩⟩
 ·simp only [List.size_toArray,yO,List.length_take,List.length_drop,Array.length_toList]
  rw [← hsz];omega
 ·rcases h1.row.2 with ⟨h2,_⟩|⟨g',cap',cur',h2,_,h4,_,_,_,h8⟩
  ·cases h2
  ·injection h2 with h2 h3 h5
   injection h2 with h2
   injection h2 with h2
   subst h2
   rw [hh] at h4
   injection h4 with h4
   injection h4 with h4
   subst h4
   rw [← h8]
   show ((cur.toList.take (i*n)++zs++cur.toList.drop (i*n+zs.length))).take (i*n)=cur.toList.take (i*n)
   have hl:(cur.toList.take (i*n)).length=i*n:=by rw [List.length_take,Array.length_toList];omega
   rw [List.append_assoc,List.take_append,List.take_of_length_le (by omega),hl];simp
end
end Go.VB
namespace Go.Proofs.YtealcoghiaeiiaaGreat.VG
open Go.VB Go.VB.Srt Go.Proofs Go.RowKit
abbrev zRR:zFj zA zAH zA3 2 zL.cells zL.v:=zFj.agg zAM ZI (λ_=>rfl) (λ_=>rfl) (by decide)
theorem zIg {w:World} {x:Sl} {l:List Pai} (hd:zJT w x l) {fv:Value} {p:Pai->Bool} (hp:zGQ fv p l w) {k:Int->World->Prop}
  (H0:l.any p=false->∀ w',Bel w w'->k (-1) w')
  (H1:∀ (n:Nat) d,l[n]?=some d->p d=true->(l.take n).any p=false->∀ w',Bel w w'->k (n:Int) w'):
  Cl zA zEI [Sl.v x,fv].toArray w (λe w'=>∃ r0:Int,e=.returned (.int .i64 r0)/\k r0 w'):=by
 have dbig:=hd.big;have dcap:=hd.cap;have dlen:=hd.len
 refine zBU x _ w _ ?_
 unfold Y4
 refine ⟨λi w1=>∃ n:Nat,i=(n:Int)/\n<=l.length/\Bel w w1/\(l.take n).any p=false,λi _=>(x.len - i).toNat,⟨0,rfl,by omega,Bel.refl _,by simp⟩,?_⟩
 rintro i w1 ⟨n,rfl,hn,hb,hno⟩
 unfold QK
 refine ⟨λhc=>?_,λhc=>?_⟩
 ·obtain ⟨d,hdn⟩:=getE (l:=l) (n:=n) (by omega)
  refine zFX (hd.bel hb) ZI zAn (by omega) (x:=d) (by simpa using hdn) λad hA=>?_
  refine zBb zAM d rfl hA rfl ?_
  refine hp d (List.mem_of_getElem? hdn) w1 _ hb λw2 b2=>⟨λht=>?_,λhf=>?_⟩
  ·exact H1 n d hdn ht hno w2 (hb.trans b2)
  ·rw [wr64 (by omega) (by omega)]
   exact ⟨⟨n+1,by omega,by omega,hb.trans b2,by rw [zI0 hdn p hno];exact hf⟩,by dsimp only;omega⟩
 ·obtain rfl:n=l.length:=by omega
  rw [List.take_length] at hno
  exact H0 hno w1 hb
theorem zJQ {α:Type} {l:List α} {p:α->Bool} (h:l.any p=false):l.filter (λx=>!p x)=l:=by
 rw [List.filter_eq_self]
 intro x hx
 cases hp:p x with
 |false=>rfl
 |true=>rw [List.any_eq_true.2 ⟨x,hx,hp⟩] at h;cases h
theorem zNq {base:Nat} {w:World} {x:Sl} {l:List Pai} (hO:zAk base w x l) {fv:Value} {p:Pai->Bool} {C:World->Prop} (hw:C w)
  (hC:∀ W W' row,C W->W.grownBy W' row->(∀ q,row=some q->(Sl.v x).ownBlock=some q)->C W') (hp:∀ W,C W->zGQ fv p l W) {k:Sl->World->Prop}
  (H:∀ r w',zAk base w' r (l.filter λd=>!p d)->w.grownBy w' (Sl.v x).ownBlock->(∀ q,(Sl.v r).ownBlock=some q->(Sl.v x).ownBlock=some q)->k r w'):
  Cl zA zDo [Sl.v x,fv].toArray w (λe w'=>∃ r0:Sl,e=.returned (Sl.v r0)/\k r0 w'):=by
 have dsm:=hO.small;have dlen:=hO.len
 have hCb:∀ {W W'},C W->Bel W W'->C W':=λh hb=>hC _ _ none h (zg hb none) (λq e=>by cases e)
 refine zDz x _ w k ?_
 unfold Zq
 refine zIg (zAk.rd hO) (hp w hw) (λhno w1 b1=>⟨λ_=>?_,λh=>absurd rfl h⟩) λn d hd hpd hno w1 b1=>⟨λh=>by omega,λ_=>?_⟩
 ·exact H x w1 (by rw [zJQ hno];exact hO.bel b1) (zg b1 _) λq h=>h
 have hnl:n<l.length:=(List.getElem?_eq_some_iff.1 hd).1
 obtain ⟨ad0,had,-⟩:=(zAk.rd hO).cells n d hd
 rw [wr64 (by omega) (by omega)]
 refine ⟨λa c W=>∃ (i j:Nat) (ys:List Pai),a=(i:Int)/\c=(j:Int)/\j<=l.length/\i<j/\zAk base W x ys/\ys.length=l.length/\ys.take i=(l.take j).filter (λd=>!p d)/\ys.drop j=l.drop j/\C W/\w.grownBy W (Sl.v x).ownBlock,λ_ c _=>(x.len - c).toNat,
  ⟨n,n+1,l,rfl,by omega,by omega,by omega,hO.bel b1,rfl,?_,rfl,hCb hw b1,zg b1 _⟩,?_⟩
 ·rw [zCy hd,List.filter_append,zJQ hno];simp [hpd]
 rintro a c W ⟨i,j,ys,rfl,rfl,hj,hij,hOW,hyl,htk,hdr,hCW,hg⟩
 unfold YU
 refine ⟨λhc=>?_,λhc=>?_⟩
 ·obtain ⟨e,he⟩:=getE (l:=l) (n:=j) (by omega)
  have hye:ys[j]?=some e:=by
   have h1:=congrArg (λm=>m[0]?) hdr
   simpa [he] using h1
  have hfs:(l.take (j+1)).filter (λd=>!p d)=(l.take j).filter (λd=>!p d)++(if p e=true then [] else [e]):=by
   rw [zCy he,List.filter_append];cases hpe:p e<;>simp [hpe]
  refine zFX (zAk.rd hOW) ZI zAn (by omega) (x:=e) (by simpa using hye) λad hA=>?_
  refine zBb zAM e rfl hA rfl ?_
  refine zCs zIh rfl zAM (cs:=e.cells) rfl rfl rfl λB W1 b2 hX hB=>?_
  refine zBb zAM e rfl hX.at rfl ?_
  have hC1:=hCb hCW b2
  refine hp W1 hC1 e (List.mem_of_getElem? he) W1 _ (Bel.refl _) λW2 b3=>⟨λhn=>?_,λhn=>?_⟩
  ·have hpe:p e=false:=by simpa using hn
   have hC2:=hCb hC1 b3
   have hO2:=(hOW.bel b2).bel b3
   refine zBb zAM e rfl (hX.bel b3).at rfl ?_
   have hR2:=zAk.rd hO2
   obtain ⟨y0,hy0⟩:=getE (l:=ys) (n:=i) (by omega)
   have had2:x.a=some ad0:=had
   refine ⟨_,W2,zIv ZI zAn had2 (by omega) (by omega),?_⟩
   obtain ⟨W3,hs3,hO3,hg3⟩:=zJA zRR hO2 (i:=i) (by omega) e had2
   refine ⟨W3,by simpa using hs3,?_⟩
   unfold yn
   rw [wr64 (by omega) (by omega),wr64 (by omega) (by omega)]
   refine ⟨⟨i+1,j+1,ys.set i e,by omega,by omega,by omega,by omega,hO3,by simp [hyl],?_,?_,hC _ _ _ hC2 hg3 (λq h=>h),zS (zS hg (zg (b2.trans b3) _)) hg3⟩,by dsimp only;omega⟩
   ·rw [hfs,← htk,List.take_set,zCy hy0,if_neg (by simp [hpe])]
    rw [List.set_append_right _ _ (by rw [List.length_take];exact Nat.min_le_left _ _),List.length_take,Nat.min_eq_left (by omega)];simp
   ·rw [List.drop_set_of_lt (by omega),← List.drop_drop,← List.drop_drop,hdr]
  ·have hpe:p e=true:=by simpa using hn
   unfold yn
   rw [wr64 (by omega) (by omega)]
   refine ⟨⟨i,j+1,ys,rfl,by omega,by omega,by omega,(hOW.bel b2).bel b3,hyl,?_,?_,hCb hC1 b3,zS hg (zg (b2.trans b3) _)⟩,by dsimp only;omega⟩
   ·rw [hfs,htk,if_pos hpe,List.append_nil]
   ·rw [← List.drop_drop,← List.drop_drop,hdr]
 ·obtain rfl:j=l.length:=by omega
  rw [List.take_length] at htk
  refine zMb hOW (λ_=>rfl) ZI zAn zLk rfl rfl (by decide) (by omega) λW' hO' hg' hb'=>?_
  exact H _ W' (by rw [← htk];exact hO') (zS hg hg') λq hq=>by rw [← hb'];exact hq
end Go.Proofs.YtealcoghiaeiiaaGreat.VG
set_option linter.unusedVariables false
set_option linter.unusedSimpArgs false
namespace Go.VB
open Go.RowKit
section
variable {P:Program} {w:World} {α:Type} {c:α->List Value} {n e t bytes base:Nat}
theorem zPe {s:Sl} {xs:List α} {x:α} {vx:Value} (hO:OwnS c n e base w s xs) (hc:∀ x,(c x).length=n) (h1:∀ x,(c x).all (·.oneCell')=true) (hn:0<n)
  (hu:P.underlying t=some (.slice e)) {z:Value} (hi:(P.info? e).map (λi=>(i.zero,i.size,i.bytes))=some (some z,n,bytes)) (hz:z.cells.size=n) (hby:0<bytes)
  (hbs:∀ w,(zr t 1 [(0,vx)].toArray).run P w=.ok (Sl.v ⟨some ⟨w.heap.size,0,none⟩,1,1⟩) (w.alloc (.cells (c x).toArray e)))
  (hbw:base<=w.heap.size) (room:(xs.length+1)*bytes<=140737488355328) {J:World->Prop} (hJ:∀ w',Bel w w'->J w') {k:Sl->World->Prop} {ty:TypeId}
  (H:∀ s' w',OwnS c n e base w' s' (xs++[x])->w.grownBy w' (Sl.v s).ownBlock->(∀ q,(Sl.v s').ownBlock=some q->(Sl.v s).ownBlock=some q∨w.heap.size<=q)->k s' w'):
  opE P Sl.v (zr t 1 [(0,vx)].toArray) w (λy w=>J w/\opE P Sl.v (Builtin.append_ #[t,t] ty [Sl.v s,Sl.v y].toArray) w k):=by
 obtain ⟨y,w1,hr,h2⟩:=zNE (k:=k) (ty:=ty) hO hc h1 hn hu hi hz hby hbs hbw room H
 refine ⟨y,w1,hr,hJ w1 ?_,h2⟩
 have:=(hbs w).symm.trans hr
 injection this with _ e1
 rw [← e1];exact Bel.alloc _ _
end
end Go.VB
namespace Go.Proofs.YtealcoghiaeiiaaGreat.VG
open Go.VB Go.VB.Srt Go.Proofs Go.RowKit
theorem zKw {l:List Ver} {key:ByteArray}:∀ (i:Nat) (x:Ver),l[i]?=some x->x.Key=key->∃ j y,l[j]?=some y/\y.Key=key/\∀ m z,j=m+1->l[m]?=some z->z.Key≠key
 |0,x,h,hk=>⟨0,x,h,hk,λm z e=>by omega⟩
 |i+1,x,h,hk=>by
  obtain ⟨y,hy⟩:=getV (l:=l) (n:=i) (by have:=(List.getElem?_eq_some_iff.1 h).1;omega)
  by_cases hyk:y.Key=key
  ·exact zKw i y hy hyk
  ·exact ⟨i+1,x,h,hk,λm z e hz=>by
    obtain rfl:m=i:=by omega
    rw [hy] at hz;cases hz;exact hyk⟩
theorem zMy {fr to key:ByteArray} {l:List Ver} {T:Int} {p:Pai}:p∈one fr to key (sees l key T)↔p.Key=key/\cut (zBD fr to) (λk=>val l k T) key=some p.Val:=by
 have h0:=zMG fr to key
 show p∈one fr to key (sees l key T)↔p.Key=key/\(if zBr (zBD fr to) key=true then val l key T else none)=some p.Val
 unfold one
 by_cases ho:zGb fr to key
 ·rw [if_pos ho,if_neg (by rw [h0.1 ho];decide)];simp
 ·have hs:zBr (zBD fr to) key=true:=by
   cases h:zBr (zBD fr to) key with
   |true=>rfl
   |false=>exact absurd (h0.2 h) ho
  rw [if_neg ho,if_pos hs]
  unfold val
  cases hse:sees l key T with
  |none=>simp
  |some x=>
   simp only
   cases hg:x.Gone
   ·simp only [Bool.false_eq_true,if_false,List.mem_singleton,Option.some.injEq]
    constructor
    ·rintro rfl;exact ⟨rfl,rfl⟩
    ·rintro ⟨h1,h2⟩;obtain ⟨a,b⟩:=p;simp at h1 h2;rw [h1,h2]
   ·simp
theorem zL6 {l:List Ver} (hs:l.Pairwise vlt) (fr to:ByteArray) (T:Int):zGD (cut (zBD fr to) λk=>val l k T) (zCp l fr to T l.length):=by
 have hp:∀ i p,p∈pick l fr to T i->∃ x,l[i]?=some x/\(∀ j y,i=j+1->l[j]?=some y->y.Key≠x.Key)/\p.Key=x.Key/\cut (zBD fr to) (λk=>val l k T) p.Key=some p.Val:=λi p hp=>by
  unfold pick at hp
  cases hx:l[i]? with
  |none=>rw [hx] at hp;cases hp
  |some x=>
   rw [hx] at hp
   simp only at hp
   split at hp
   ·cases hp
   ·rename_i hn
    obtain ⟨h1,h2⟩:=zMy.1 hp
    exact ⟨x,rfl,λj y e hy hk=>hn ⟨j,y,e,hy,hk⟩,h1,by rw [h1];exact h2⟩
 refine ⟨?_,λp=>?_⟩
 ·unfold zCp
  rw [Rise,List.pairwise_flatMap]
  refine ⟨λi _=>?_,?_⟩
  ·have:=zL7 l fr to T i
   match pick l fr to T i,this with
   |[],_=>simp
   |[a],_=>simp
  ·refine List.pairwise_lt_range.imp λ{i j} hij p hpi q hqj=>?_
   obtain ⟨x,hx,hx1,hx2,_⟩:=hp i p hpi
   obtain ⟨y,hy,hy1,hy2,_⟩:=hp j q hqj
   rw [hx2,hy2]
   refine zMf hs hij hx hy λe=>?_
   obtain ⟨z,hz⟩:=getV (l:=l) (n:=j - 1) (by have:=(List.getElem?_eq_some_iff.1 hy).1;omega)
   have hzy:=hy1 (j - 1) z (by omega) hz
   rcases Nat.lt_or_ge i (j - 1) with h|h
   ·have h1:=zLZ hs h hx hz
    have h2:=zLZ hs (show j - 1<j by omega) hz hy
    rw [← e] at h2 hzy
    exact h1 (zEr h2 (λe'=>hzy e'.symm))
   ·obtain rfl:i=j - 1:=by omega
    rw [hx] at hz;cases hz;exact hzy e
 ·constructor
  ·intro h
   obtain ⟨i,_,hi⟩:=List.mem_flatMap.1 h
   obtain ⟨x,_,_,_,h4⟩:=hp i p hi
   exact h4
  ·intro h
   have hsome:∃ x,sees l p.Key T=some x:=by
    have h':(if zBr (zBD fr to) p.Key=true then val l p.Key T else none)=some p.Val:=h
    split at h'
    ·unfold val at h'
     cases hse:sees l p.Key T with
     |none=>rw [hse] at h';cases h'
     |some x=>exact ⟨x,rfl⟩
    ·cases h'
   obtain ⟨x,hx⟩:=hsome
   obtain ⟨h1,h2,_⟩:=zI3 hx
   obtain ⟨i,hi⟩:=List.getElem?_of_mem h1
   obtain ⟨j,y,hj,hyk,hfirst⟩:=zKw i x hi h2
   refine List.mem_flatMap.2 ⟨j,List.mem_range.2 (List.getElem?_eq_some_iff.1 hj).1,?_⟩
   unfold pick
   rw [hj]
   simp only
   rw [if_neg]
   ·exact zMy.2 ⟨hyk.symm,by rw [hyk];exact h⟩
   ·rintro ⟨m,z,hm,hz,hzk⟩
    exact hfirst m z hm hz (hzk.trans hyk)
def zGN (x:Spn) (y:Wri):Option Pai:=if y.Gone=false/\zBr x y.Key=true then some ⟨y.Key,y.Val⟩ else none
def kltP (a b:Pai):Bool:=sLt a.Key b.Key
theorem zOv:Srt.SWO kltP where
 irr x:=by
  cases h:kltP x x with
  |false=>rfl
  |true=>exact absurd h (zAs x.Key)
 neg x y z h:=by
  unfold kltP at*
  by_cases h1:sLt x.Key y.Key=true
  ·exact .inl h1
  ·right
   by_cases h2:x.Key=y.Key
   ·rw [← h2];exact h
   ·exact zHw (zEr h1 h2) h
 asy x y h:=by
  cases h1:kltP y x with
  |false=>rfl
  |true=>exact absurd h1 (zHB h)
theorem zO2 (a b:Pai) (w:World) {k:Int->World->Prop} (H:∀ w',Bel w w'->k (cmpS a.Key b.Key) w'):Cl zA zDL [zL.v a,zL.v b].toArray w (λe w'=>∃ r0:Int,e=.returned (.int .i64 r0)/\k r0 w'):=by
 refine zHM a b w k ?_
 unfold zDy
 refine zAb (cs:=a.cells) rfl λB w1 b1 hA _=>?_
 refine zAb (cs:=b.cells) rfl λC w2 b2 hB _=>?_
 refine yJ zBE zp (hA.bel b2).at a.Key rfl ?_
 refine yJ zBE zp hB.at b.Key rfl ?_
 exact zHm a.Key b.Key w2 (H w2 (b1.trans b2))
theorem zMr:SoCmpFunc_api_Pair.Cmps (.func (.func zDL) #[] #[]) kltP:=λw x y=>
 ⟨cmpS x.Key y.Key,⟨zDL,[],[],rfl,zRC,λw' _=>(zO2 x y w' (k:=λr W=>r=cmpS x.Key y.Key/\Bel w' W) λW hb=>⟨rfl,hb⟩).mono λe W ⟨r,he,hr,hb⟩=>⟨by rw [he,hr],hb⟩⟩,by rw [zLT];exact Iff.rfl⟩
theorem zOF (p:Pai) {w:World} {B tb wb:Nat} {rs:Sl} {t:Tx} (hB:Row w B [.pointer (ptrA tb)] zE8) (hT:Row w tb [.int .u64 t.began,Sl.v rs,.map (some wb)] zA1) (hM:Zk za zI.v w wb t.wr)
  {k:Bool->World->Prop} (H:∀ w',Bel w w'->k (t.wr p.Key).isSome w'):Cl zA zFZ [zL.v p,.pointer (ptrA B)].toArray w (λe w'=>∃ r0:Bool,e=.returned (.bool r0)/\k r0 w'):=by
 refine zHO p (ptrA B) w k ?_
 unfold zDx
 refine zAb (cs:=p.cells) rfl λX w1 b1 hX _=>?_
 refine ⟨Bel w1,λu bu=>⟨bu,?_⟩⟩
 refine zFf zBE ?_
 refine zC5 zBJ (ptrA tb) (λW hW=>((hB.bel b1).bel hW).cell) ⟨trivial,?_⟩
 refine zFf Z8 ?_
 refine zC5 Qf (some wb) (λW hW=>((hT.bel b1).bel hW).at.fld rfl) ?_
 refine zC5 zp p.Key (λW hW=>(hX.bel hW).at.fld rfl) ?_
 refine zLb (z:=zLm) (λW hW=>(hM.bel b1).bel hW) zH5 YP zHE p.Key ?_
 refine zEv zBk λC w2 b2 hZ hC=>?_
 refine ⟨bu.trans b2,?_⟩
 refine zHZ YO hZ rfl rfl rfl λw3 hZ3 g3=>?_
 have b13:Bel w1 w3:=(bu.trans b2).grown g3 λr hr=>by cases hr;have:=bu.le;omega
 exact ⟨b13,H w3 (b1.trans b13)⟩
theorem zNd {s:St} (hI:Inv s) {n:Int} {t:Tx} (ht:s.tx n=some t) (fr to:ByteArray) {ks:List ByteArray} (hd:Doms t.wr ks) {ys:List Pai}
  (hp:ys.Perm ((zCp s.l fr to t.began s.l.length).filter (λd=>!(t.wr d.Key).isSome)++(ks.filterMap t.wr).filterMap (zGN (zBD fr to)))) (hl:ys.Pairwise (λx y=>Le kltP x y)):
  zGD (cut (zBD fr to) (zHV s t)) ys:=by
 have hk:=(hI.txok n t ht).keyed
 obtain ⟨s1,s2⟩:=zL6 hI.good.sorted fr to t.began
 generalize zCp s.l fr to t.began s.l.length=L at hp s1 s2
 have m2:∀ p,p∈(ks.filterMap t.wr).filterMap (zGN (zBD fr to))↔∃ x,t.wr p.Key=some x/\x.Gone=false/\zBr (zBD fr to) p.Key=true/\x.Val=p.Val:=λp=>by
  rw [List.mem_filterMap]
  constructor
  ·rintro ⟨x,hx,hpx⟩
   obtain ⟨key,_,hkx⟩:=List.mem_filterMap.1 hx
   unfold zGN at hpx
   split at hpx
   ·rename_i h;cases hpx
    have:=hk _ _ hkx
    subst this
    exact ⟨x,hkx,h.1,h.2,rfl⟩
   ·cases hpx
  ·rintro ⟨x,h1,h2,h3,h4⟩
   have hxk:=hk _ _ h1
   refine ⟨x,List.mem_filterMap.2 ⟨p.Key,(hd.2 _).2 ⟨x,h1⟩,h1⟩,?_⟩
   unfold zGN
   rw [if_pos ⟨h2,by rw [hxk];exact h3⟩,hxk,h4]
 have hmem:∀ p,p∈ys↔cut (zBD fr to) (zHV s t) p.Key=some p.Val:=λp=>by
  rw [hp.mem_iff,List.mem_append,List.mem_filter,s2,m2]
  unfold cut zHV ovl
  by_cases hsp:zBr (zBD fr to) p.Key=true
  ·rw [if_pos hsp,if_pos hsp]
   cases hw:t.wr p.Key with
   |none=>simp
   |some x=>
    simp only [Option.isSome_some,Bool.not_true,Bool.false_eq_true,and_false,false_or,Option.some.injEq]
    constructor
    ·rintro ⟨y,rfl,h1,_,h2⟩;rw [if_neg (by rw [h1];decide),h2]
    ·intro h
     split at h
     ·cases h
     ·rename_i hg
      exact ⟨x,rfl,by simpa using hg,hsp,Option.some.inj h⟩
  ·rw [if_neg hsp,if_neg hsp]
   simp only [reduceCtorEq,false_and,false_or,iff_false]
   rintro ⟨x,_,_,h3,_⟩;exact hsp h3
 have hnd:(L.filter (λd=>!(t.wr d.Key).isSome)++(ks.filterMap t.wr).filterMap (zGN (zBD fr to))).Pairwise (λx y:Pai=>x.Key≠y.Key):=by
  refine List.pairwise_append.2 ⟨(s1.sublist List.filter_sublist).imp λ{a b} h e=>by have h':sLt a.Key b.Key=true:=h;rw [e] at h';exact zAs _ h',?_,λx hx y hy e=>?_⟩
  ·rw [List.pairwise_filterMap,List.pairwise_filterMap]
   refine hd.1.imp λ{a b} hab x hx y hy p hpx q hqy e=>hab ?_
   unfold zGN at hpx hqy
   split at hpx
   ·split at hqy
    ·cases hpx;cases hqy
     have:=hk a x hx;have:=hk b y hy
     simp_all
    ·cases hqy
   ·cases hpx
  ·obtain ⟨_,h1⟩:=List.mem_filter.1 hx
   obtain ⟨z,h2,_⟩:=(m2 y).1 hy
   rw [e,h2] at h1;simp at h1
 have hnd':ys.Pairwise (λx y=>x.Key≠y.Key):=(hp.pairwise_iff (λ{x y} h=>h.symm)).2 hnd
 refine ⟨(hl.and hnd').imp λ{x y} h12=>?_,hmem⟩
 cases h:sLt x.Key y.Key with
 |true=>rfl
 |false=>
  have h3:sLt y.Key x.Key=true:=zEr (by rw [h];decide) h12.2
  have h4:sLt y.Key x.Key=false:=h12.1
  rw [h3] at h4;cases h4
end Go.Proofs.YtealcoghiaeiiaaGreat.VG
set_option linter.unusedVariables false
set_option linter.unusedSimpArgs false
namespace Go.Proofs.YtealcoghiaeiiaaGreat.VG
open Go.VB Go.VB.Srt Go.Proofs Go.RowKit
theorem zPf {ρ:Own} {w:World} {b:Nat} {s:St} (h:Mgr ρ w b s) (hI:Inv s) (n:Int) (fr to:ByteArray) {k:Sl->Int->World->Prop}
  (H0:s.tx n=none->∀ w',Bel w w'->k Sl.none 11 w')
  (H1:∀ t,s.tx n=some t->256<=t.reads.length->∀ w',Bel w w'->k Sl.none 3 w')
  (H2:∀ t r ys ρ' w',s.tx n=some t->t.reads.length<256->zGD (cut (zBD fr to) (zHV s t)) ys->zAk w.heap.size w' r ys->(∀ q,(Sl.v r).ownBlock=some q->ρ' q=none)->Mgr ρ' w' b (setTx s n (addR t (zBD fr to)))->Ext ρ w ρ' w'->k r 0 w'):
  Cl zA zF4 [.pointer (ptrA b),.int .i64 n,.string fr,.string to].toArray w (λe w'=>∃ (r0:Sl) (r1:Int),e=.returned (.tuple [Sl.v r0,.int .i64 r1].toArray)/\k r0 r1 w'):=by
 obtain ⟨vs,mb,g,m⟩:=h
 refine zIE (ptrA b) n fr to w k ?_
 unfold zEz
 refine zKf m n (λht=>?_) λt ht=>?_
 ·refine zEv zIy λB w1 b1 hB hB0=>?_
  refine zH4 zBJ hB rfl rfl λw2 hB2 g2=>?_
  have b2:Bel w w2:=b1.grown g2 λr hr=>by cases hr;exact hB0
  exact ⟨λ_=>H0 ht w2 b2,λh=>absurd (by decide) h⟩
 refine zEv zIy λX w1 b1 hX hX0=>?_
 refine zH4 zBJ hX rfl rfl λw2 hX2 g2=>?_
 have b2:Bel w w2:=b1.grown g2 λr hr=>by cases hr;exact hX0
 refine ⟨λh=>absurd rfl h,λ_=>?_⟩
 have m2:=m.bel b2
 have mt2:=m2.tx n t ht
 have hrl:=mt2.rd.len
 refine zA2 zBJ (ptrA (g n).tb) hX2.cell ⟨trivial,?_⟩
 refine yJ zBG zBn mt2.row.at (g n).rs rfl ?_
 refine ⟨λhc=>H1 t ht (by omega) w2 b2,λhc=>?_⟩
 have hroom:t.reads.length<256:=by omega
 refine ⟨zBD fr to,w2,by kernel_rfl,?_⟩
 refine zCs zLC rfl zFK (cs:=(zBD fr to).cells) rfl rfl rfl λY w3 b3 hY hY0=>?_
 refine ⟨λW=>Row W X [.pointer (ptrA (g n).tb)] zE8/\Row W Y (zBD fr to).cells zJS/\Row W (g n).tb [.int .u64 t.began,Sl.v (g n).rs,.map (some (g n).wb)] zA1,λw4 b4=>?_⟩
 have b24:=b3.trans b4
 have b04:=b2.trans b24
 have m4:=m.bel b04
 have mt4:=m4.tx n t ht
 have hX4:=hX2.bel b24
 have hY4:=hY.bel b4
 refine ⟨⟨hX4,hY4,mt4.row⟩,?_⟩
 refine zC5 zBJ (ptrA (g n).tb) (λW hW=>hW.1.cell) ?_
 refine zC5 zBJ (ptrA (g n).tb) (λW hW=>hW.1.cell) ⟨trivial,?_⟩
 refine zFf zBG ?_
 refine zC5 zBn (g n).rs (λW hW=>hW.2.2.at.fld rfl) ?_
 refine zKh zFK (zBD fr to) rfl (λW hW=>hW.2.1.at) rfl ?_
 refine zPe mt4.rd (λ_=>rfl) (λ_=>rfl) (by decide) zGE zHL rfl (by decide) (zHl (zBD fr to)) (Nat.zero_le _) (by omega) (λW hW=>⟨hX4.bel hW,hY4.bel hW,mt4.row.bel hW⟩) λz w5 hO g5 hq=>?_
 have s1:=b1.le;have s2:=b2.le;have s3:=b3.le;have s24:=b24.le;have s04:=b04.le;have s5:=g5.size;have s4:=b4.le;have s12:=g2.size
 have hxl:w.heap.size<=X/\w.heap.size<=Y:=⟨hX0,by omega⟩
 have hrsne:∀ q,w.heap.size<=q->(Sl.v (g n).rs).ownBlock≠some q:=λq hq e=>by have:=m.lt q (by rw [(m.tx n t ht).rrd q e];simp);omega
 have hX5:=hX4.grown g5 (hrsne X hxl.1)
 have hY5:=hY4.grown g5 (hrsne Y hxl.2)
 have hrow5:Row w5 (g n).tb [.int .u64 t.began,Sl.v (g n).rs,.map (some (g n).wb)] zA1:=mt4.row.grown g5 λe=>by
  have:=mt4.rrd _ e;rw [mt4.rtb] at this;cases this
 refine ⟨⟨hX5,hY5,hrow5⟩,trivial,?_⟩
 refine zFf zBG ?_
 refine zH1 zBn hrow5 (by cases z with|mk a l c=>cases a<;>rfl) (by simp) (by cases z with|mk a l c=>cases a<;>rfl) λw6 hR6 g6=>?_
 replace hR6:Row w6 (g n).tb [.int .u64 t.began,Sl.v z,.map (some (g n).wb)] zA1:=hR6
 have hzt:(Sl.v z).ownBlock≠some (g n).tb:=OwnS.ne_row hO hrow5 (by decide)
 have hO6:=hO.kept g6 (.inr hzt)
 have htbX:(g n).tb≠X/\(g n).tb≠Y:=by
  have:=m.lt (g n).tb (by rw [(m.tx n t ht).rtb];simp);omega
 have hX6:=hX5.grown g6 (by simpa using htbX.1)
 have hY6:=hY5.grown g6 (by simpa using htbX.2)
 let ρ':Own:=λk=>if (Sl.v z).ownBlock=some k then some (.rb n) else ρ k
 have hρ:∀ k,k<w.heap.size->ρ' k=ρ k:=λk hk=>by
  show (if (Sl.v z).ownBlock=some k then _ else _)=_
  split
  ·rename_i e
   rcases hq k e with h1|h1
   ·exact (mt4.rrd k h1).symm
   ·omega
  ·rfl
 have hs6:=g6.size
 have hρ4:∀ k,k<w4.heap.size->ρ' k=ρ k:=λk hk=>by
  show (if (Sl.v z).ownBlock=some k then _ else _)=_
  split
  ·rename_i e
   rcases hq k e with h1|h1
   ·exact (mt4.rrd k h1).symm
   ·omega
  ·rfl
 have hkeep:∀ k r,ρ k=some r->r≠.tb n->r≠.rb n->w6.heap[k]?=w4.heap[k]?:=λk r hk h1 h2=>by
  have hkl:=m4.lt k (by rw [hk];simp)
  rw [g6.block k (by omega) λe=>by injection e with e;rw [e,mt4.rtb] at hk;cases hk;exact h1 rfl,g5.block k hkl λe=>by
   have:=mt4.rrd k e.symm;rw [hk] at this;cases this;exact h2 rfl]
 have hE46:Ext ρ w4 ρ' w6:=⟨(Out.row (S:=λk=>ρ k≠none) g5 λk hk=>.inl (by show ρ k≠none;rw [mt4.rrd k hk];simp)).trans (Out.row (S:=λk=>ρ k≠none) g6 λk hk=>by cases hk;exact .inl (by show ρ _≠none;rw [mt4.rtb];simp)) λ_ _ h=>h,hρ4⟩
 have hE:Ext ρ w ρ' w6:=(Ext.bel b04).trans hE46
 have m6:zCQ ρ' w6 b (setTx s n (addR t (zBD fr to))) vs mb (λm=>if m=n then ⟨(g n).tb,(g n).wb,z⟩ else g m):=by
  refine m4.setTx ht rfl hρ4 (λk hk=>?_) (λk r hk h1 h2 h3=>hkeep k r hk h1 h3) ?_
  ·by_cases e:(Sl.v z).ownBlock=some k
   ·exact hO6.lt e
   ·have:ρ k≠none:=by
     have h1:(if (Sl.v z).ownBlock=some k then some (Role.rb n) else ρ k)≠none:=hk
     rw [if_neg e] at h1;exact h1
    have:=m4.lt k this;omega
  ·exact {
    row:=hR6
    rtb:=(hρ4 _ (m4.lt _ (by rw [mt4.rtb];simp))).trans mt4.rtb
    rd:=hO6
    rrd:=λk hk=>by show (if (Sl.v z).ownBlock=some k then _ else _)=_;rw [if_pos hk]
    wr:=mt4.wr.keep (hkeep _ _ mt4.rwb (by simp) (by simp))
    rwb:=(hρ4 _ (m4.lt _ (by rw [mt4.rwb];simp))).trans mt4.rwb}
 have hM6:Zk za zI.v w6 (g n).wb t.wr:=mt4.wr.keep (hkeep _ _ mt4.rwb (by simp) (by simp))
 refine ⟨Bel w6,λw7 b7=>⟨b7,trivial,?_⟩⟩
 refine zFf xV ?_
 refine zKh z6 (cs:=[Sl.v vs,.int .u64 s.low]) ⟨vs,s.low⟩ rfl (λW hW=>(m6.bel hW).versAt) rfl ?_
 refine zC5 zBJ (ptrA (g n).tb) (λW hW=>(hX6.bel hW).cell) ⟨trivial,?_⟩
 refine zFf zD7 ?_
 refine zC5 yF t.began (λW hW=>(hR6.bel hW).at.fld rfl) ?_
 have hvs:zKt s.l s.low fr to t.began=(zCp s.l fr to t.began s.l.length,0):=by
  unfold zKt
  rw [if_neg (by rw [zGs.2 ⟨hI.good,(hI.tim n t ht).1⟩];decide)]
 refine zOO (x0:=⟨vs,s.low⟩) (m6.bel b7).vers fr to t.began λr2 w8 base hb8 hbw8 hO8 b8=>?_
 replace hO8:zAk base w8 r2 (zKt s.l s.low fr to t.began).1:=hO8
 rw [hvs] at hO8
 replace hO8:zAk base w8 r2 (zCp s.l fr to t.began s.l.length):=hO8
 have hl4:=hI.good.len
 have hsl:=zKK s.l fr to t.began s.l.length
 have b68:=b7.trans b8
 have s67:=b7.le
 refine ⟨b68,?_⟩
 have hXb:X<w6.heap.size:=hX6.lt
 have hTb:(g n).tb<w6.heap.size:=hR6.lt
 have hMb:(g n).wb<w6.heap.size:=hM6.lt
 refine zNq (p:=λd=>(t.wr d.Key).isSome) (C:=λW=>Row W X [.pointer (ptrA (g n).tb)] zE8/\Row W (g n).tb [.int .u64 t.began,Sl.v z,.map (some (g n).wb)] zA1/\Zk za zI.v W (g n).wb t.wr) hO8 ⟨hX6.bel b68,hR6.bel b68,hM6.bel b68⟩ ?_ ?_ λr4 w9 hO9 g9 hb9=>?_
 ·rintro W W' row ⟨h1,h2,h3⟩ hg hr
  have hlo:∀ q,row=some q->w6.heap.size<=q:=λq hq=>by have:=hO8.lo (hr q hq);omega
  exact ⟨h1.grown hg λe=>by have:=hlo _ e;omega,h2.grown hg λe=>by have:=hlo _ e;omega,h3.grown hg λe=>by have:=hlo _ e;omega⟩
 ·rintro W ⟨h1,h2,h3⟩
  exact λd _ w' k' hb hk=>.inl ⟨zFZ,[],[.pointer (ptrA X)],rfl,zRL,zOF d (h1.bel hb) (h2.bel hb) (h3.bel hb) hk⟩
 have b69:Bel w6 w9:=b68.grown g9 λq hq=>by have:=hO8.lo hq;omega
 have s69:=b69.le
 refine zA2 zBJ (ptrA (g n).tb) (hX6.bel b69).cell ⟨trivial,?_⟩
 refine yJ Z8 Qf (hR6.bel b69).at (some (g n).wb) rfl ?_
 obtain ⟨⟨dom,hd,hdl⟩,hky⟩:Few t/\zKi t:=⟨(hI.txok n t ht).few,(hI.txok n t ht).keyed⟩
 refine zOw (hM6.bel b69) YP λw10 hi b10=>?_
 have hwb9:(g n).wb<w9.heap.size:=by omega
 have s8:=b8.le;have s9:=g9.size
 have hbase9:base<=w9.heap.size:=by omega
 have hfl:((zCp s.l fr to t.began s.l.length).filter (λd=>!(t.wr d.Key).isSome)).length<=4096:=zl (List.length_filter_le _ _) (by omega)
 generalize hR:w9.heap.size=R at hi hwb9 hbase9 ⊢
 have s10:=b10.le
 let L0:=(zCp s.l fr to t.began s.l.length).filter (λd=>!(t.wr d.Key).isSome)
 refine ⟨λx W=>∃ ks,zAx za zI.v W (g n).wb R t.wr ks/\zAk base W x (L0++(ks.filterMap t.wr).filterMap (zGN (zBD fr to)))/\Bel w6 W/\R<W.heap.size,λ_ W=>dom.length - zG7 W R,⟨[],hi,by show zAk base w10 r4 (L0++[]);rw [List.append_nil];exact hO9.bel b10,b69.trans b10,by obtain ⟨c,sb,hb⟩:=hi.blk;exact (Array.getElem?_eq_some_iff.1 hb).1⟩,?_⟩
 rintro x W ⟨ks,hi1,hO1,hb1,hRW⟩
 unfold zBj
 refine zMn hi1 (by omega) zH9 (λhall=>?_) λy v W2 hy hn hi2 hg=>?_
 ·refine ⟨λ_=>?_,λk v e=>by cases e⟩
  refine SoCmpFunc_api_Pair.sort_ok zOv zMr hO1 λys w3 hp hpw hO2 hg=>?_
  have hdk:Doms t.wr ks:=⟨hi1.nd,λx=>⟨hi1.dom x,λ⟨v,hv⟩=>hall x v hv⟩⟩
  have hbf:Bel w6 w3:=hb1.grown hg λq hq=>by have:=hO1.lo hq;omega
  refine H2 t x ys ρ' w3 ht hroom (zNd hI ht fr to hdk hp hpw) (hO2.low (by omega)) (λq hq=>?_) ⟨_,_,_,m6.bel hbf⟩ (hE.trans (Ext.bel hbf))
  have h1:=hO2.lo hq
  cases hρq:ρ' q with
  |none=>rfl
  |some r0=>have:=m6.lt q (by rw [hρq];simp);omega
 ·refine ⟨λe=>(nomatch e),λk v' e=>?_⟩
  cases e
  have hb2:Bel w6 W2:=hb1.grown hg λr e=>by cases e;omega
  have hcl:(ks++[y]).length<=dom.length:=zFr hi2.nd λz hz=>(hd.2 z).2 (hi2.dom z hz)
  rw [yO,List.length_singleton] at hcl
  have hl1:=hi1.size
  have hO2:zAk base W2 x (L0++(ks.filterMap t.wr).filterMap (zGN (zBD fr to))):=hO1.notwalk (B:=R) hg λr e=>by
   cases e
   obtain ⟨c,sb,hb⟩:=hi1.blk
   exact ⟨zV _,_,hb,rfl⟩
  refine zHc hi2 hy zH9 ?_
  refine zCs zBk rfl YO (cs:=v.cells) rfl rfl rfl λC W3 b3 hC _=>?_
  refine yJ zCm zC1 hC.at v.Gone rfl ?_
  have hi3:=hi2.bel b3
  have hO3:=hO2.bel b3
  have hb3:=hb2.trans b3
  have hg2:=hg.size;have s3:=b3.le
  have hvk:=hky y v hy
  have hfm:(ks++[y]).filterMap t.wr=ks.filterMap t.wr++[v]:=by rw [List.filterMap_append,List.filterMap_cons_some hy];rfl
  have hlen:(L0++(ks.filterMap t.wr).filterMap (zGN (zBD fr to))).length<=4096+256:=by
   rw [yO]
   have h1:=List.length_filterMap_le (zGN (zBD fr to)) (ks.filterMap t.wr)
   have h2:=List.length_filterMap_le t.wr ks
   have h3:L0.length<=4096:=hfl
   omega
  have J:∀ (c:Bool) W4,Bel W3 W4->(c=true↔v.Gone=false/\zBr (zBD fr to) v.Key=true)->zAD x (λx13' w'=>(∃ ks,zAx za zI.v w' (g n).wb R t.wr ks/\zAk base w' x13' (L0++(ks.filterMap t.wr).filterMap (zGN (zBD fr to)))/\Bel w6 w'/\R<w'.heap.size)/\dom.length - zG7 w' R<dom.length - zG7 W R) (zI.v v) (ptrA C) c W4:=by
   intro c W4 b4 hc
   unfold zAD
   have hi4:=hi3.bel b4
   have s4:=b4.le
   have hlen4:=hi4.size
   rw [yO,List.length_singleton] at hlen4
   refine ⟨λh1=>?_,λh1=>?_⟩
   ·have hpk:zGN (zBD fr to) v=some ⟨v.Key,v.Val⟩:=by unfold zGN;rw [if_pos (hc.1 h1)]
    have hC4:=hC.bel b4
    refine yJ Yt zp hC4.at v.Key rfl ?_
    refine yJ zCH zp hC4.at v.Val rfl ?_
    refine ⟨⟨v.Key,v.Val⟩,W4,by kernel_rfl,?_⟩
    refine zL0 (w0:=w6) (hO3.bel b4) (hb3.trans b4) (by omega) (by omega) (by omega) λx' W5 hO5 hb5 g5=>?_
    have hi5:=zLf hi4 (KeepsWalks.row g5 λr hr=>(hO3.bel b4).isRow hr)
    have hlen5:=hi5.size
    rw [yO,List.length_singleton] at hlen5
    refine ⟨⟨ks++[y],hi5,?_,hb5,by have:=g5.size;omega⟩,by omega⟩
    rw [hfm,List.filterMap_append,List.filterMap_cons_some hpk,← List.append_assoc];exact hO5
   ·have hpk:zGN (zBD fr to) v=none:=by unfold zGN;rw [if_neg λh2=>by rw [hc.2 h2] at h1;cases h1]
    refine ⟨⟨ks++[y],hi4,?_,hb3.trans b4,by omega⟩,by omega⟩
    rw [hfm,List.filterMap_append,List.filterMap_cons_none hpk,List.filterMap_nil,List.append_nil];exact hO3.bel b4
  refine ⟨λh1=>?_,λh1=>J false W3 (Bel.refl _) ⟨λh=>(nomatch h),λh2=>by rw [h2.1] at h1;cases h1⟩⟩
  have hgf:v.Gone=false:=by simpa using h1
  have hY3:=hY6.bel hb3
  refine zBb zFK (zBD fr to) rfl hY3.at rfl ?_
  refine yJ Yt zp hC.at v.Key rfl ?_
  exact zNP (zBD fr to) v.Key W3 λW4 b4=>J _ W4 b4 ⟨λh=>⟨hgf,h⟩,λh=>h.2⟩
end Go.Proofs.YtealcoghiaeiiaaGreat.VG
