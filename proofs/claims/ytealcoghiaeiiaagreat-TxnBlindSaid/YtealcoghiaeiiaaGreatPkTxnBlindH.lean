/- Texts by which the law's calls are walked (part 8): rules, printed conditions, contracts; no condition. -/
import Derived.TacticsIn
import Derived.TacticsInMore
import Derived.Deep.LoopGhost
import Derived.Sort.QuietThIn
import Derived.RangeFuncCalls
import Derived.RangeFuncNested
import Derived.RangeFuncLeaves
import Derived.WalkKit
import Derived.StillTail
import Derived.Test.YtealcoghiaeiiaaGreatProg
import Derived.KernelRfl
import Derived.Deep.WholeRow
import Derived.Laws.StructEq
import Derived.MapFrom
import Derived.Laws.CopyRow
import Derived.Maps.RangeRun
import Derived.Sort.Walk0
import Derived.RangeFuncBound
import Derived.Test.YtealcoghiaeiiaaGreatPkTxnBlindG
open Go.Proofs.Tryz renaming prog → zA
open Go.IntKind renaming wrap → zB
open Go.Value renaming pointer → zC, int → zV, string → zY, bool → Qq
open Go.Instr renaming loadAt → zD, storeAt → zK, indexAt → zF, fieldAt → zO, alloc → zk, build → QC, buildSlice → zc
open Nat renaming le_refl → zU, le_trans → ze, lt_of_lt_of_le → xf
open List renaming length_append → zy
set_option linter.unusedVariables false
namespace Go.Proofs.YtealcoghiaeiiaaGreat.VG
open Go.VB Go.VB.Srt Go.Proofs Go.RowKit
theorem zNf {w u W:World} {x1:Sl} {l:List Ver} {m:List Wri} {low t:Int} {B5 B6 B9:Nat} {r:Sl} (hm:zHs w x1 m) (hbu:Bel w u) (hs:l.Pairwise vlt) (hn:(zDP m).Nodup) (hl:∀ y∈l,y.At<t) (hlen:l.length+m.length<=4096)
  (h5:Row u B5 [.int .u64 t] zH1) (h6:Row u B6 zGG z9) (hB6:w.heap.size<=B6) (hR:Row W B9 [Sl.v r,.int .u64 low] z9) (hO:Zg u.heap.size W r l) (hb:Bel u W) (hB9:u.heap.size<=B9)
  {k:zP->Int->World->Prop} (H:∀ r w' base,w.heap.size<=base->Zg base w' r (putL l t m)->Bel w w'->k ⟨r,low⟩ 0 w'):
  zC4 x1 k (some ⟨B5,0,none⟩) (some ⟨B6,0,none⟩) (some ⟨B9,0,none⟩) W:=by
 have dbig:=hm.big;have dcap:=hm.cap;have dlen:=hm.len
 have hwu:=hbu.le
 have lt6:=h6.lt
 unfold zC4
 refine ⟨λi W'=>∃ (n:Nat) (sl:Sl),i=(n:Int)/\n<=m.length/\Row W' B9 [Sl.v sl,.int .u64 low] z9/\Zg u.heap.size W' sl (l++(m.take n).map (mk t))/\Bel u W',λi _=>(x1.len - i).toNat,⟨0,r,rfl,by omega,hR,by simpa using hO,hb⟩,?_⟩
 rintro i W' ⟨n,sl,rfl,hnn,hR',hO',hb'⟩
 unfold zE8
 refine ⟨λhlt=>?_,λhlt=>?_⟩
 ·obtain ⟨d,hdn⟩:=getW (l:=m) (n:=n) (by omega)
  have hmk:(m.take (n+1)).map (mk t)=(m.take n).map (mk t)++[mk t d]:=by rw [zB9 hdn,List.map_append];rfl
  refine zDR (hm.bel (hbu.trans hb')) zAR zBX (by omega) (x:=d) (by simpa using hdn) λad hA=>?_
  refine zBI y6 d rfl hA rfl ?_
  refine zCT zAl rfl y6 (cs:=d.cells) rfl rfl rfl λC w3 b3 hX hC=>?_
  refine yy yj zn hX.at d.Key rfl ?_
  refine zAS yK t ((h5.bel hb').bel b3).cell ?_
  refine yy zAE zn hX.at d.Val rfl ?_
  refine yy zBH zDe hX.at d.Gone rfl ?_
  refine ⟨⟨d.Key,t,d.Val,d.Gone⟩,w3,by kernel_rfl,?_⟩
  refine zCT zBW rfl yI (cs:=(⟨d.Key,t,d.Val,d.Gone⟩:Ver).cells) rfl rfl rfl λC2 w4 b4 hY hC2=>?_
  have b34:=b3.trans b4
  have hb4:=hb'.trans b34
  refine yy zBH zDe (hX.bel b4).at d.Gone rfl ?_
  have j5:∀ w5,Row w5 C2 (mk t d).cells yE->Row w5 B9 [Sl.v sl,.int .u64 low] z9->Zg u.heap.size w5 sl (l++(m.take n).map (mk t))->Bel u w5->
    zC7 (some ⟨B9,0,none⟩) n (λ(i':Int) (w':World)=>(∃ (n:Nat) (sl:Sl),i'=(n:Int)/\n<=m.length/\Row w' B9 [Sl.v sl,.int .u64 low] z9/\Zg u.heap.size w' sl (l++(m.take n).map (mk t))/\Bel u w')/\(x1.len - i').toNat<(x1.len - (n:Int)).toNat) (some ⟨C2,0,none⟩) w5:=by
   intro w5 r1 r2 r3 r4
   unfold zC7
   refine zOd (w0:=u) r2 r3 r1.at r4 (zU _) r4.le hB9 (by rw [zy,List.length_map,List.length_take];omega) λs' W5 q1 q2 q3 q4=>?_
   rw [wr64 (by omega) (by omega)]
   exact ⟨⟨n+1,s',by omega,by omega,q1,by rw [hmk,← List.append_assoc];exact q2,q3⟩,by omega⟩
  have hb'le:=hb'.le
  have b3le:=b3.le
  refine ⟨λhg=>?_,λhg=>?_⟩
  ·refine ⟨_,_,zBc _ w4,?_⟩
   refine zHU zn (off:=2) hY rfl (by simp) rfl λw5 hZ hg5=>?_
   refine j5 w5 ?_ (((hR'.bel b34)).grown hg5 (λe=>?_)) ((hO'.bel b34).kept hg5 ?_) (hb4.grown hg5 λr hr=>by cases hr;omega)
   ·rw [show (mk t d)=⟨d.Key,t,noB,d.Gone⟩ by unfold mk;rw [if_pos hg]];simpa using hZ
   ·have h1:=hR'.lt;have h2:=Option.some.inj e;omega
   ·cases ho:(Sl.v sl).ownBlock with
    |none=>exact .inl rfl
    |some q=>exact .inr λe=>by have h8:=(hO'.row.lt q ho).2;have h9:=Option.some.inj e;omega
  ·exact j5 w4 (by rw [show (mk t d)=⟨d.Key,t,d.Val,d.Gone⟩ by unfold mk;rw [if_neg (by rw [hg];decide)]];exact hY) (hR'.bel b34) (hO'.bel b34) hb4
 ·obtain rfl:n=m.length:=by omega
  rw [List.take_length] at hO'
  refine yy yB yA hR'.at sl rfl ?_
  refine SoCmpFunc_api_Version.sort_ok zOs zMa hO' λys w3 hp hle hO3 hg3=>?_
  have hys:=zPk hs hn hl hp hle
  subst hys
  have hR3:=hR'.grown hg3 (OwnS.ne_row hO' hR' (by decide))
  refine zBI z7 ⟨sl,low⟩ rfl hR3.at rfl ?_
  have hb3:Bel u w3:=hb'.grown hg3 λr hr=>hO'.lo hr
  refine zJm (h6.bel hb3) rfl λw4 hg4=>?_
  have hb6:Bel w w4:=(hbu.trans hb3).grown hg4 λr hr=>by cases hr;exact hB6
  refine H sl w4 u.heap.size hwu (hO3.kept hg4 ?_) hb6
  cases ho:(Sl.v sl).ownBlock with
  |none=>exact .inl rfl
  |some q=>exact .inr λe=>by have h8:=hO3.lo ho;have h9:=Option.some.inj e;omega
theorem zNA {w:World} {x0:zP} {x1:Sl} {l:List Ver} {m:List Wri} (h:zEd w x0.List l) (hm:zHs w x1 m) (t:Int) {k:zP->Int->World->Prop}
  (H:∀ r w' base,w.heap.size<=base->Zg base w' r (vput l x0.Low m t).1->Bel w w'->k ⟨r,(vput l x0.Low m t).2.1⟩ (vput l x0.Low m t).2.2 w'):
  Cl zA zLg [zP.v x0,Sl.v x1,.int .u64 t].toArray w (λe w'=>∃ (r0:zP) (r1:Int),e=.returned (.tuple [zP.v r0,.int .i64 r1].toArray)/\k r0 r1 w'):=by
 refine zLq x0 x1 t w k ?_
 have hbig:=h.big;have hcap:=h.cap;have hlen:=h.len
 have dbig:=hm.big;have dcap:=hm.cap;have dlen:=hm.len
 unfold zIP
 refine zA7 (cs:=x0.cells) rfl λB3 w1 b1 hV hB3=>?_
 refine zA7 (cs:=[.int .u64 t]) rfl λB5 w2 b2 hT hB5=>?_
 refine zFJ zAa λB6 w3 b3 hZ hB6=>?_
 have b03:=(b1.trans b2).trans b3
 have w1le:=b1.le;have w2le:=b2.le
 replace hV:=(hV.bel b2).bel b3
 replace hT:=hT.bel b3
 refine zBI z7 x0 rfl hV.at rfl ?_
 refine zI8 (h.bel b03) λw4 b4=>?_
 have b04:=b03.trans b4
 have J2:∀ (c:Int) W,Bel w4 W->c=pwhy l x0.Low m t->zBL x1 k (some ⟨B3,0,none⟩) (some ⟨B5,0,none⟩) (some ⟨B6,0,none⟩) c W:=by
  intro c W hb hc
  have b0W:=b04.trans hb
  have hZW:=(hZ.bel b4).bel hb
  unfold vput at H
  rw [← hc] at H
  unfold zBL
  refine ⟨λhne=>?_,λhz=>?_⟩
  ·rw [if_pos hne] at H
   refine ⟨zKo,W,by kernel_rfl,?_⟩
   have hbg:∀ W',W.grownBy W' (some B6)->Bel w W':=λW' hg=>b0W.grown hg λr hr=>by cases hr;omega
   exact zJm hZW rfl λW' hg=>H Sl.none W' W'.heap.size (hbg W' hg).le (OwnS.nil _ _ _ _ _) (hbg W' hg)
  rw [if_neg hz] at H
  obtain ⟨g1,g2,g3,g4,g5,g6,g7⟩:=zFW.1 (hc ▸ Classical.not_not.1 hz:pwhy l x0.Low m t=0)
  have hnd:=(zE0.1 g2).2.2
  refine ⟨Bel W,λu bu=>⟨bu,?_⟩⟩
  have b0u:=b0W.trans bu
  have hVu:=((hV.bel b4).bel hb).bel bu
  have hTu:=((hT.bel b4).bel hb).bel bu
  have hZu:=hZW.bel bu
  have hVb:∀ W',Bel W W'->Row W' B3 x0.cells z9:=λW' hw=>((hV.bel b4).bel hb).bel hw
  refine zFX yB ?_
  refine zFX zAd ?_
  refine zCy yA x0.List (λW' hW'=>(hVb W' hW').at.fld rfl) ?_
  refine zCy yK x0.Low (λW' hW'=>(hVb W' hW').at.fld rfl) ?_
  have fin:=λ(r:Sl) (B9:Nat) (W':World) (hR:Row W' B9 [Sl.v r,.int .u64 x0.Low] z9) (hO:Zg u.heap.size W' r l) (hb':Bel u W') (hB9:u.heap.size<=B9)=>zNf (low:=x0.Low) (k:=k) hm b0u g1.sorted hnd g6 g7 hTu hZu (by omega) hR hO hb' hB9 H
  constructor
  ·refine zL8 (h.bel b0u) (by omega) λr W1 hO c1=>?_
   refine ⟨bu.trans c1,?_⟩
   refine ⟨⟨r,x0.Low⟩,λW' _=>by kernel_rfl,?_⟩
   refine zFJ zAa λB9 W2 c2 hR hB9=>?_
   refine ⟨(bu.trans c1).trans c2,?_⟩
   have c1le:=c1.le
   refine zIC z7 hR rfl rfl rfl λW3 hR3 hg3=>?_
   have c3:Bel u W3:=(c1.trans c2).grown hg3 λr hr=>by cases hr;omega
   exact ⟨bu.trans c3,fin r B9 W3 hR3 ((hO.bel c2).kept hg3 (.inr (OwnS.ne_row (hO.bel c2) hR (by decide)))) c3 (by omega)⟩
  ·refine zFJ zAa λB9 W1 c1 hR hB9=>?_
   refine ⟨bu.trans c1,?_⟩
   refine zL8 (h.bel (b0u.trans c1)) (by omega) λr W2 hO c2=>?_
   refine ⟨(bu.trans c1).trans c2,?_⟩
   refine ⟨⟨r,x0.Low⟩,λW' _=>by kernel_rfl,?_⟩
   have hR2:=hR.bel c2
   refine zIC z7 hR2 rfl rfl rfl λW3 hR3 hg3=>?_
   have c3:Bel u W3:=(c1.trans c2).grown hg3 λr hr=>by cases hr;omega
   have hO':Zg u.heap.size W2 r l:=⟨hO.len,hO.small,hO.row.1,by
    rcases hO.row.2 with h1|⟨g,cap,cur,p1,p2,p3⟩
    ·exact .inl h1
    ·exact .inr ⟨g,cap,cur,p1,ze c1.le p2,p3⟩⟩
   exact ⟨bu.trans c3,fin r B9 W3 hR3 (hO'.kept hg3 (.inr (OwnS.ne_row hO' hR2 (by decide)))) c3 hB9⟩
 have J1:∀ (c:Int) W,Bel w4 W->(c≠0->c=pwhy l x0.Low m t)->(c=0->vchk l x0.Low=0/\zGP m=0)->zC8 x1 k (some ⟨B3,0,none⟩) (some ⟨B5,0,none⟩) (some ⟨B6,0,none⟩) c W:=by
  intro c W hb hc1 hc2
  have b0W:=b04.trans hb
  unfold zC8
  refine ⟨λhne=>J2 c W hb (hc1 hne),λhz=>?_⟩
  obtain rfl:c=0:=Classical.not_not.1 hz
  obtain ⟨e1,e2⟩:=hc2 rfl
  have hp:pwhy l x0.Low m t=if t<1∨2305843009213693952<t then 2 else if t<x0.Low∨(∃ x∈l,t<=x.At) then 9 else if 4096<l.length+m.length then 3 else 0:=by
   unfold pwhy;rw [if_neg (by simp [e1]),if_neg (by simp [e2])]
  have hg:=(zFa.1 e1).len
  have hm4:=(zE0.1 e2).1
  have hTW:=(hT.bel b4).bel hb
  have hVW:=(hV.bel b4).bel hb
  refine zAS yK t hTW.cell ?_
  have r7t:(t<1∨2305843009213693952<t)->zC5 x1 k (some ⟨B3,0,none⟩) (some ⟨B5,0,none⟩) (some ⟨B6,0,none⟩) 0 true W:=λht=>⟨λ_=>J2 2 W hb (by rw [hp,if_pos ht]),λh=>(nomatch h)⟩
  refine ⟨λht=>r7t (.inl ht),λht=>?_⟩
  refine zAS yK t hTW.cell ?_
  by_cases ht2:2305843009213693952<t
  ·rw [decide_eq_true ht2];exact r7t (.inr ht2)
  rw [decide_eq_false ht2]
  rw [if_neg (by omega)] at hp
  unfold zC5
  refine ⟨λh=>(nomatch h),λ_=>?_⟩
  refine zAS yK t hTW.cell ?_
  refine yy zAd yK hVW.at x0.Low rfl ?_
  have r8t:∀ W',Bel w4 W'->(t<x0.Low∨(∃ x∈l,t<=x.At))->zC6 x1 k (some ⟨B3,0,none⟩) (some ⟨B5,0,none⟩) (some ⟨B6,0,none⟩) 0 true W':=λW' hb' ht=>⟨λ_=>J2 9 W' hb' (by rw [hp,if_pos ht]),λh=>(nomatch h)⟩
  refine ⟨λhlo=>r8t W hb (.inl hlo),λhlo=>?_⟩
  refine yy yB yA hVW.at x0.List rfl ?_
  refine zLN (h.bel b0W) hTW λb W1 hbb b5=>?_
  cases b with
  |true=>exact r8t W1 (hb.trans b5) (.inr (hbb.1 rfl))
  |false=>
   rw [if_neg (λhx=>by
    rcases hx with h1|h1
    ·exact hlo h1
    ·have:=hbb.2 h1;cases this)] at hp
   unfold zC6
   refine ⟨λh=>(nomatch h),λ_=>?_⟩
   refine yy yB yA (hVW.bel b5).at x0.List rfl ?_
   rw [wr64 (by omega) (by omega)]
   exact ⟨λh4=>J2 3 W1 (hb.trans b5) (by rw [hp,if_pos (by omega)]),λh4=>J2 0 W1 (hb.trans b5) (by rw [hp,if_neg (by omega)])⟩
 refine ⟨λhc=>?_,λhc=>J1 _ w4 (Bel.refl _) (λ_=>by unfold pwhy;rw [if_pos hc]) (λh=>absurd h hc)⟩
 refine zN0 (hm.bel b04) λw5 b5=>?_
 exact J1 _ w5 b5 (λhne=>by unfold pwhy;rw [if_neg (by simp [hc]),if_pos hne]) (λhz=>⟨hc,hz⟩)
end Go.Proofs.YtealcoghiaeiiaaGreat.VG
set_option linter.unusedVariables false
namespace Go.Proofs.YtealcoghiaeiiaaGreat.VG
open Go.VB Go.VB.Srt Go.Proofs Go.RowKit
theorem zQc {w:World} {x y:Pai} {o1 o2:Operand} {k:Bool->Prop} (H:∀ b:Bool,(b=true↔¬ x=y)->k b):
  opB zA Qq (do eqGuard .neq ZU o1 o2 (zL.v x) (zL.v y);binOp .neq ZU (zL.v x) (zL.v y)) w k:=by
 obtain ⟨r,h1,h2⟩:=zK1 x y o1 o2
 exact ⟨r,λw' _=>h1 w',H r h2⟩
theorem zO1 {w:World} {x0 x1:Sl} {l m:List Pai} (h:zHn w x0 l) (h':zHn w x1 m) {k:Bool->World->Prop} (H:∀ r w',(r=true↔l=m)->Bel w w'->k r w'):
  Cl zA zH6 [Sl.v x0,Sl.v x1].toArray w (λe w'=>∃ r0:Bool,e=.returned (.bool r0)/\k r0 w'):=by
 refine zH7 x0 x1 w k ?_
 have hbig:=h.big;have hcap:=h.cap;have hlen:=h.len;have hlen':=h'.len
 unfold zEp
 refine ⟨λhc=>H false w ⟨λh=>(nomatch h),λh=>?_⟩ (Bel.refl _),λhc=>?_⟩
 ·subst h;omega
 have hc':(x0.len:Int)=x1.len:=Classical.not_not.1 hc
 refine ⟨λx w1=>∃ n:Nat,x=(n:Int)/\n<=l.length/\Bel w w1/\l.take n=m.take n,λx _=>(x0.len - x).toNat,⟨0,rfl,by omega,Bel.refl _,rfl⟩,?_⟩
 rintro x w1 ⟨n,rfl,hn,hb,hq⟩
 unfold zBg
 refine ⟨λhc=>?_,λhc=>?_⟩
 ·obtain ⟨e,he⟩:∃ e,l[n]?=some e:=⟨l[n]'(by omega),by simp⟩
  obtain ⟨f,hf⟩:∃ f,m[n]?=some f:=⟨m[n]'(by omega),by simp⟩
  refine zHP (h.bel hb) Yq zAK (by omega) (x:=e) (by simpa using he) λad hA=>?_
  refine zHT ZI e rfl hA rfl ?_
  refine zHP (h'.bel hb) Yq zAK (by omega) (x:=f) (by simpa using hf) λad' hA'=>?_
  refine zHT ZI f rfl hA' rfl ?_
  refine zQc λb hbb=>?_
  intro w2 hb2
  refine ⟨λht=>H false w2 ⟨λh=>(nomatch h),λh=>?_⟩ (hb.trans hb2),λhf0=>?_⟩
  ·subst h;rw [he] at hf;exact absurd (Option.some.inj hf) (hbb.1 ht)
  ·have hef:e=f:=Classical.not_not.1 λh=>by rw [hbb.2 h] at hf0;cases hf0
   subst hef
   rw [wr64 (by omega) (by omega)]
   exact ⟨⟨n+1,by omega,by omega,hb.trans hb2,zIk hq he hf⟩,by dsimp only;omega⟩
 ·obtain rfl:n=l.length:=by omega
  refine H true w1 ⟨λ_=>?_,λ_=>rfl⟩ hb
  rw [List.take_length,List.take_of_length_le (by omega)] at hq
  exact hq
abbrev tA:ByteArray:=ByteArray.mk #[97]
abbrev t1:ByteArray:=ByteArray.mk #[49]
abbrev t2:ByteArray:=ByteArray.mk #[50]
end Go.Proofs.YtealcoghiaeiiaaGreat.VG
set_option linter.unusedVariables false
namespace Go.Proofs.YtealcoghiaeiiaaGreat.VG
open Go.VB Go.VB.Srt Go.Proofs Go.RowKit
theorem zL4 {low:Int} {x z:Ver} {o:Option Ver}:z∈zCN low x o↔z=x/\(∀ y,o=some y->y.Key=x.Key->low<y.At)/\¬ (x.Gone=true/\x.At<=low):=by
 unfold zCN
 by_cases h1:∃ y,o=some y/\y.Key=x.Key/\y.At<=low
 ·rw [if_pos h1]
  obtain ⟨y,h2,h3,h4⟩:=h1
  exact ⟨λh=>(nomatch h),λh=>by have:=h.2.1 y h2 h3;omega⟩
 ·rw [if_neg h1]
  by_cases h2:x.Gone=true/\x.At<=low
  ·rw [if_pos h2];exact ⟨λh=>(nomatch h),λh=>absurd h2 h.2.2⟩
  ·rw [if_neg h2]
   refine ⟨λh=>⟨by simpa using h,λy h3 h4=>Int.not_le.1 λh5=>h1 ⟨y,h3,h4,h5⟩,h2⟩,λh=>by simp [h.1]⟩
theorem zJY {low:Int} {z:Ver}:∀ {l:List Ver},l.Pairwise vlt->(z∈swp low l↔z∈l/\(∀ y∈l,y.Key=z.Key->z.At<y.At->low<y.At)/\¬ (z.Gone=true/\z.At<=low))
 |[],_=>by simp [swp]
 |x::r,hs=>by
  rw [List.pairwise_cons] at hs
  rw [swp,List.mem_append,zL4,zJY hs.2]
  have hxr:∀ y∈r,y.Key=x.Key->x.At<y.At:=λy hy hk=>by
   rcases hs.1 y hy with h|h
   ·rw [hk] at h;exact absurd h (Zl _)
   ·exact h.2
  constructor
  ·rintro (⟨rfl,h1,h2⟩|⟨h1,h2,h3⟩)
   ·refine ⟨by simp,λy hy hk hlt=>?_,h2⟩
    rcases List.mem_cons.1 hy with h3|h3
    ·subst h3;omega
    ·cases r with
     |nil=>simp at h3
     |cons h r=>
      rcases List.mem_cons.1 h3 with h4|h4
      ·subst h4;exact h1 y rfl hk
      ·have h5:=(List.pairwise_cons.1 hs.2).1 y h4
       have h6:=hs.1 h (by simp)
       have hhk:h.Key=z.Key:=by
        rcases h5 with h5|h5
        ·rcases h6 with h6|h6
         ·rw [hk] at h5;exact absurd h6 (zGo h5)
         ·exact h6.1.symm
        ·exact h5.1.trans hk
       have h7:=h1 h rfl hhk
       rcases h5 with h5|h5
       ·rw [hk,hhk] at h5;exact absurd h5 (Zl _)
       ·omega
   ·refine ⟨List.mem_cons_of_mem _ h1,λy hy hk hlt=>?_,h3⟩
    rcases List.mem_cons.1 hy with h4|h4
    ·subst h4
     have:=hxr z h1 hk.symm
     omega
    ·exact h2 y h4 hk hlt
  ·rintro ⟨h1,h2,h3⟩
   rcases List.mem_cons.1 h1 with h4|h4
   ·left
    subst h4
    refine ⟨rfl,λy hy hk=>?_,h3⟩
    have hyr:y∈r:=List.mem_of_mem_head? hy
    exact h2 y (List.mem_cons_of_mem _ hyr) hk (hxr y hyr hk)
   ·right
    exact ⟨h4,λy hy=>h2 y (List.mem_cons_of_mem _ hy),h3⟩
theorem zLQ (low:Int) (x:Ver) (o:Option Ver):(zCN low x o).Sublist [x]:=by
 unfold zCN;split
 ·exact List.nil_sublist _
 ·split
  ·exact List.nil_sublist _
  ·exact List.Sublist.refl _
theorem zG1 (low:Int):∀ l:List Ver,(swp low l).Sublist l
 |[]=>List.Sublist.refl _
 |x::r=>by
  rw [swp]
  exact (zLQ low x r.head?).append (zG1 low r)
theorem zO6 {l:List Ver} {low0 low:Int} (h:zCM l low0) (hl:low<=2305843009213693952):zCM (swp low l) low:=
 zJa (ze (zLL low l) h.len) hl (λx hx=>h.made ((zG1 low l).subset hx)) (h.sorted.sublist (zG1 low l))
theorem zN1 {l:List Ver} {low0 low:Int} (h:(zDB l low0 low).2.2=0):zCM l low0/\low0<=low/\low<=2305843009213693952/\zDB l low0 low=(swp low l,low,0):=by
 unfold zDB at h ⊢
 by_cases h1:vchk l low0=0
 case neg=>rw [if_pos h1] at h;exact absurd h h1
 rw [if_neg (by simp [h1])] at h ⊢
 by_cases h2:low<low0
 ·rw [if_pos h2] at h;exact absurd h (by decide)
 rw [if_neg h2] at h ⊢
 by_cases h3:2305843009213693952<low
 ·rw [if_pos h3] at h;exact absurd h (by decide)
 rw [if_neg h3]
 exact ⟨zFa.1 h1,by omega,by omega,rfl⟩
theorem zNr {l:List Ver} {low0 low:Int} (h:zCM l low0) (h1:low0<=low) (h2:low<=2305843009213693952):zDB l low0 low=(swp low l,low,0):=by
 unfold zDB;rw [if_neg (by simp [zI5 h]),if_neg (by omega),if_neg (by omega)]
theorem zJl {l m:List Ver} (hl:l.Pairwise vlt) (hm:m.Pairwise vlt) {key:ByteArray} {s t:Int} (h:∀ x:Ver,x.Key=key->((x∈l/\x.At<=s)↔(x∈m/\x.At<=t))):sees l key s=sees m key t:=by
 unfold sees
 congr 1
 refine zIH (hl.sublist List.filter_sublist) (hm.sublist List.filter_sublist) λx=>?_
 rw [List.mem_filter,List.mem_filter]
 simp only [Bool.and_eq_true,decide_eq_true_eq]
 constructor
 ·rintro ⟨h1,h2,h3⟩;have:=(h x h2).1 ⟨h1,h3⟩;exact ⟨this.1,h2,this.2⟩
 ·rintro ⟨h1,h2,h3⟩;have:=(h x h2).2 ⟨h1,h3⟩;exact ⟨this.1,h2,this.2⟩
theorem zOT {l:List Ver} {low0:Int} (hg:zCM l low0) {low ask:Int} (ha:low<=ask) (key:ByteArray):outV (sees (swp low l) key ask)=outV (sees l key ask):=by
 have hs:=hg.sorted
 have hsw:=hs.sublist (zG1 low l)
 cases h:sees l key ask with
 |none=>
  have:sees (swp low l) key ask=none:=zD5.2 λx hx=>zD5.1 h x ((zG1 low l).subset hx)
  rw [this]
 |some x=>
  obtain ⟨h1,h2,h3⟩:=zGh h
  have hmax:=zPj hs h
  by_cases hx:x∈swp low l
  ·rw [zHO hsw hx h2 h3 λy hy=>hmax y ((zG1 low l).subset hy)]
  ·have hgone:x.Gone=true/\x.At<=low:=Classical.byContradiction λhn=>hx ((zJY hs).2 ⟨h1,λy hy hk hlt=>Int.not_le.1 λhle=>by
    have:=hmax y hy (hk.trans h2) (by omega);omega,hn⟩)
   have:sees (swp low l) key ask=none:=zD5.2 λz hz ⟨hk,hz2⟩=>by
    obtain ⟨z1,z2,z3⟩:=(zJY hs).1 hz
    have hzx:=hmax z z1 hk hz2
    by_cases he:z.At=x.At
    ·have:z=x:=by
      have hmem:∀ p∈l,∀ q∈l,p.Key=q.Key->p.At=q.At->p=q:=λp hp q hq hk ha=>by
       obtain ⟨i,hi⟩:=List.getElem?_of_mem hp
       obtain ⟨j,hj⟩:=List.getElem?_of_mem hq
       rcases Nat.lt_trichotomy i j with hij|hij|hij
       ·rcases zG3 hs hij hi hj with h5|h5
        ·rw [hk] at h5;exact absurd h5 (Zl _)
        ·omega
       ·subst hij;rw [hi] at hj;exact Option.some.inj hj
       ·rcases zG3 hs hij hj hi with h5|h5
        ·rw [hk] at h5;exact absurd h5 (Zl _)
        ·omega
      exact hmem z z1 x h1 (hk.trans h2.symm) he
     subst this;exact hx hz
    ·have:=z2 x h1 (h2.trans hk.symm) (by omega);omega
   rw [this]
   show (noB,false)=(x.Val,!x.Gone)
   rw [hgone.1,(hg.made h1).gone hgone.1];rfl
theorem zGW {l:List Ver} {t:Int} {m:List Wri} {x:Ver}:x∈putL l t m↔x∈l∨∃ w∈m,mk t w=x:=by
 rw [(zJD t m l).mem_iff,List.mem_append,List.mem_map]
theorem zPV {l:List Ver} {low:Int} {m:List Wri} {t:Int} (h:(vput l low m t).2.2=0):pwhy l low m t=0/\vput l low m t=(putL l t m,low,0):=by
 unfold vput at h ⊢
 by_cases h1:pwhy l low m t=0
 ·rw [if_neg (by simp [h1])];exact ⟨h1,rfl⟩
 ·rw [if_pos h1] at h;exact absurd h h1
theorem zPr {t:Int} {w:Wri} (h1:1<=t) (h2:t<=2305843009213693952) (hw:¬ zBJ w):Made (mk t w):=by
 have h3:w.Key.size<=256:=Nat.not_lt.1 λh=>hw (.inl h)
 have h4:w.Val.size<=512:=Nat.not_lt.1 λh=>hw (.inr h)
 refine ⟨h1,h2,λhg=>?_,h3,?_⟩
 ·unfold mk at hg ⊢;simp only at hg ⊢;rw [if_pos hg]
 ·unfold mk;simp only;split
  ·decide
  ·exact h4
theorem zGv {l:List Ver} {low:Int} {m:List Wri} {t:Int} (h:pwhy l low m t=0):(putL l t m).Pairwise vlt:=by
 obtain ⟨g1,g2,g3,g4,g5,g6,g7⟩:=zFW.1 h
 exact zHm m l g1.sorted (zE0.1 g2).2.2 λw _ y hy _=>g6 y hy
theorem zOW {l:List Ver} {low:Int} {m:List Wri} {t:Int} (h:pwhy l low m t=0):zCM (putL l t m) low:=by
 obtain ⟨g1,g2,g3,g4,g5,g6,g7⟩:=zFW.1 h
 refine zJa (by rw [zLk];exact g7) g1.low (λx hx=>?_) (zGv h)
 rcases zGW.1 hx with h1|⟨w,h1,rfl⟩
 ·exact g1.made h1
 ·exact zPr g3 g4 ((zE0.1 g2).2.1 w h1)
theorem zNW {l:List Ver} {low:Int} {m:List Wri} {t ask:Int} (h:pwhy l low m t=0) (ha:t<=ask) {key:ByteArray} (hk:∀ w∈m,w.Key≠key):sees (putL l t m) key ask=sees l key t:=by
 obtain ⟨g1,_,_,_,_,g6,_⟩:=zFW.1 h
 refine zJl (zGv h) g1.sorted λx hxk=>?_
 rw [zGW]
 constructor
 ·rintro ⟨h1|⟨w,h1,rfl⟩,h2⟩
  ·exact ⟨h1,by have:=g6 x h1;omega⟩
  ·exact absurd hxk (hk w h1)
 ·rintro ⟨h1,h2⟩;exact ⟨.inl h1,by omega⟩
theorem zPN {l:List Ver} {low:Int} {m:List Wri} {t ask:Int} (h:pwhy l low m t=0) (ha:t<=ask) {w:Wri} (hw:w∈m):sees (putL l t m) w.Key ask=some (mk t w):=by
 obtain ⟨g1,_,_,_,_,g6,_⟩:=zFW.1 h
 refine zHO (zGv h) (zGW.2 (.inr ⟨w,hw,rfl⟩)) rfl ha λy hy _ _=>?_
 rcases zGW.1 hy with h1|⟨v,h1,rfl⟩
 ·have:=g6 y h1;show y.At<=t;omega
 ·exact Int.le_refl _
theorem zPa {l:List Ver} {low t:Int} (hg:zCM l low) (ht:low<=t) (key:ByteArray):vget l low key t=((outV (sees l key t)).1,(outV (sees l key t)).2,0):=by
 unfold vget;rw [if_neg (by rw [zGg.2 ⟨hg,ht⟩];decide)]
end Go.Proofs.YtealcoghiaeiiaaGreat.VG
set_option linter.unusedVariables false
namespace Go.Proofs.YtealcoghiaeiiaaGreat.VG
open Go.VB Go.Proofs Go.RowKit
abbrev Spn:=z8
structure Tx where
 began:Int
 reads:List Spn
 wr:ByteArray->Option Wri
structure St where
 l:List Ver
 low:Int
 now:Int
 given:Int
 tx:Int->Option Tx
inductive Role where
 |mg
 |om
 |ve
 |tb (n:Int)
 |wb (n:Int)
 |rb (n:Int)
structure Gh where
 tb:Nat
 wb:Nat
 rs:Sl
abbrev Own:=Nat->Option Role
structure TxAt (ρ:Own) (w:World) (n:Int) (t:Tx) (g:Gh):Prop where
 row:Row w g.tb [.int .u64 t.began,Sl.v g.rs,.map (some g.wb)] zA5
 rtb:ρ g.tb=some (.tb n)
 rd:OwnS z8.cells 3 zJG 0 w g.rs t.reads
 rrd:∀ k,(Sl.v g.rs).ownBlock=some k->ρ k=some (.rb n)
 wr:Zr zY zI.v w g.wb t.wr
 rwb:ρ g.wb=some (.wb n)
structure zCS (ρ:Own) (w:World) (b:Nat) (s:St) (vs:Sl) (mb:Nat) (g:Int->Gh):Prop where
 row:Row w b [Sl.v vs,.int .u64 s.low,.int .u64 s.now,.int .i64 s.given,.map (some mb)] Zq
 rmg:ρ b=some .mg
 vers:zEd w vs s.l
 rve:∀ k,(Sl.v vs).ownBlock=some k->ρ k=some .ve
 mp:Zr (zV .i64) zC w mb (λn=>(s.tx n).map λ_=>some ⟨(g n).tb,0,none⟩)
 rom:ρ mb=some .om
 tx:∀ n t,s.tx n=some t->TxAt ρ w n t (g n)
 lt:∀ k,ρ k≠none->k<w.heap.size
def Mgr (ρ:Own) (w:World) (b:Nat) (s:St):Prop:=∃ vs mb g,zCS ρ w b s vs mb g
structure Ext (ρ:Own) (w:World) (ρ':Own) (w':World):Prop where
 out:Out (λk=>ρ k≠none) w w'
 same:∀ k,k<w.heap.size->ρ' k=ρ k
section
variable {ρ ρ' ρ'':Own} {w w' w'':World} {b:Nat} {s:St} {n:Int} {t:Tx} {g:Gh}
theorem Ext.refl (ρ:Own) (w:World):Ext ρ w ρ w:=⟨Out.refl _ w,λ_ _=>rfl⟩
theorem Ext.bel (h:Bel w w'):Ext ρ w ρ w':=⟨h.out,λ_ _=>rfl⟩
theorem Ext.grown {k:Nat} {r:Role} (h:w.grownBy w' (some k)) (hk:ρ k=some r):Ext ρ w ρ w':=
 ⟨Out.row h λi hi=>by injection hi with hi;subst hi;exact .inl (by rw [hk];simp),λ_ _=>rfl⟩
theorem Ext.trans (h:Ext ρ w ρ' w') (k:Ext ρ' w' ρ'' w''):Ext ρ w ρ'' w'':=
 ⟨h.out.trans k.out λi hi hr=>by rw [h.same i hi] at hr;exact hr,λi hi=>(k.same i (xf hi h.out.size)).trans (h.same i hi)⟩
theorem Ext.base {w0:World} (hb:Bel w0 w) (h:Ext ρ w ρ' w') (hr:∀ k,k<w0.heap.size->ρ k=none):Bel w0 w':=h.out.bel hb λi hi h1=>h1 (hr i hi)
theorem Ext.clear {n0:Nat} (h:Ext ρ w ρ' w') (hn:n0<=w.heap.size) (hr:∀ k,k<n0->ρ k=none):∀ k,k<n0->ρ' k=none:=λk hk=>(h.same k (xf hk hn)).trans (hr k hk)
theorem Ext.blk (h:Ext ρ w ρ' w') {k:Nat} (hk:k<w.heap.size) (hr:ρ k=none):w'.heap[k]?=w.heap[k]?:=h.out.block k hk λh1=>h1 hr
theorem TxAt.lt (h:TxAt ρ w n t g) {k:Nat} {r:Role}:g.tb<w.heap.size:=h.row.lt
theorem TxAt.keep (h:TxAt ρ w n t g) (hlt:∀ k,ρ k≠none->k<w.heap.size) (hρ:∀ k,k<w.heap.size->ρ' k=ρ k) (h1:∀ k,ρ k=some (.tb n)->w'.heap[k]?=w.heap[k]?) (h2:∀ k,ρ k=some (.wb n)->w'.heap[k]?=w.heap[k]?) (h3:∀ k,ρ k=some (.rb n)->w'.heap[k]?=w.heap[k]?):TxAt ρ' w' n t g where
 row:=h.row.keep (h1 _ h.rtb)
 rtb:=(hρ _ (hlt _ (by rw [h.rtb];simp))).trans h.rtb
 rd:=h.rd.keep λk hk=>h3 k (h.rrd k hk)
 rrd k hk:=(hρ _ (hlt _ (by rw [h.rrd k hk];simp))).trans (h.rrd k hk)
 wr:=h.wr.keep (h2 _ h.rwb)
 rwb:=(hρ _ (hlt _ (by rw [h.rwb];simp))).trans h.rwb
theorem zCS.keep {vs:Sl} {mb:Nat} {gh:Int->Gh} (h:zCS ρ w b s vs mb gh) (hs:w.heap.size<=w'.heap.size) (hk:∀ k,ρ k≠none->w'.heap[k]?=w.heap[k]?):zCS ρ w' b s vs mb gh where
 row:=h.row.keep (hk _ (by rw [h.rmg];simp))
 rmg:=h.rmg
 vers:=h.vers.keep λk h1=>hk k (by rw [h.rve k h1];simp)
 rve:=h.rve
 mp:=h.mp.keep (hk _ (by rw [h.rom];simp))
 rom:=h.rom
 tx n t ht:=(h.tx n t ht).keep h.lt (λ_ _=>rfl) (λk h1=>hk k (by rw [h1];simp)) (λk h1=>hk k (by rw [h1];simp)) (λk h1=>hk k (by rw [h1];simp))
 lt k h1:=xf (h.lt k h1) hs
theorem zCS.bel {vs:Sl} {mb:Nat} {gh:Int->Gh} (h:zCS ρ w b s vs mb gh) (hb:Bel w w'):zCS ρ w' b s vs mb gh:=h.keep hb.size λk h1=>hb.block k (h.lt k h1)
theorem zCS.out {S:Nat->Prop} {vs:Sl} {mb:Nat} {gh:Int->Gh} (h:zCS ρ w b s vs mb gh) (hb:Out S w w') (hS:∀ k,S k->ρ k=none):zCS ρ w' b s vs mb gh:=
 h.keep hb.size λk h1=>hb.block k (h.lt k h1) λh2=>h1 (hS k h2)
theorem Mgr.bel (h:Mgr ρ w b s) (hb:Bel w w'):Mgr ρ w' b s:=let ⟨vs,mb,g,m⟩:=h;⟨vs,mb,g,m.bel hb⟩
theorem Mgr.out {S:Nat->Prop} (h:Mgr ρ w b s) (hb:Out S w w') (hS:∀ k,S k->ρ k=none):Mgr ρ w' b s:=let ⟨vs,mb,g,m⟩:=h;⟨vs,mb,g,m.out hb hS⟩
theorem Mgr.lt (h:Mgr ρ w b s):∀ k,ρ k≠none->k<w.heap.size:=let ⟨_,_,_,m⟩:=h;m.lt
end
theorem zK4:zEy zA ZC (zV .i64):=zEy.int (q:=.i64) (by kernel_rfl)
theorem zJb (x y:Int) (h:zV .i64 x=zV .i64 y):x=y:=by injection h
theorem zH0 (x y:ByteArray) (h:zY x=zY y):x=y:=by injection h
theorem zKQ (x:Option Addr) {w:World} {o1 o2:Operand} {k:Bool->World->Prop} (H:k x.isNone w):opE zA Qq (do eqGuard .eql zGX o1 o2 (.pointer x) (.pointer none);binOp .eql zGX (.pointer x) (.pointer none)) w k:=by
 refine ⟨_,w,?_,H⟩
 cases x<;>kernel_rfl
theorem zP5 (x:Option Addr) {w:World} {o1 o2:Operand} {k:Bool->World->Prop} (H:k x.isNone w):opE zA Qq (do eqGuard .eql zEx o1 o2 (.pointer x) (.pointer none);binOp .eql zEx (.pointer x) (.pointer none)) w k:=by
 refine ⟨_,w,?_,H⟩
 cases x<;>kernel_rfl
end Go.Proofs.YtealcoghiaeiiaaGreat.VG
set_option linter.unusedVariables false
namespace Go.Proofs.YtealcoghiaeiiaaGreat.VG
open Go.VB Go.Proofs Go.RowKit
abbrev ptrA (x:Nat):Option Addr:=some ⟨x,0,none⟩
theorem zRv {κ ν:Type} {ek:κ->Value} {ev:ν->Value} {P:Program} {kt et mt:TypeId} {b:Nat} {f:κ->Option ν} {C:World->Prop} (h:∀ w,C w->Zr ek ev w b f) (K:zEy P kt ek) (hm:P.underlying mt=some (.map kt et)) {z:ν} (hz:∀ w,(zeroValue et).run P w=.ok (ev z) w) (x:κ) {k:ν->Prop} (H:k ((f x).getD z)):
  opC C P ev (Instr.lookup mt (.map (some b)) (ek x) false) k:=⟨_,λw' hb=>(h w' hb).run_look K hm hz x,H⟩
section
variable {ρ:Own} {w:World} {b:Nat} {s:St} {vs:Sl} {mb:Nat} {g:Int->Gh}
theorem zNJ (h:zCS ρ w b s vs mb g) (n:Int) {k:Option Addr->Int->World->Prop} (H0:s.tx n=none->k none 11 w) (H1:∀ t,s.tx n=some t->k (ptrA (g n).tb) 0 w):
  Cl zA zIu [.pointer (ptrA b),.int .i64 n].toArray w (λe w'=>∃ (r0:Option Addr) (r1:Int),e=.returned (.tuple [.pointer r0,.int .i64 r1].toArray)/\k r0 r1 w'):=by
 refine zIx (ptrA b) n w k ?_
 unfold zFU
 refine zKQ _ ⟨λh=>(nomatch h),λ_=>⟨trivial,?_⟩⟩
 refine yy zBP zBQ h.row.at (some mb) rfl ?_
 refine zQL h.mp zK4 zBO zLt n ?_
 cases ht:s.tx n with
 |none=>exact zP5 _ ⟨λ_=>H0 ht,λh=>(nomatch h)⟩
 |some t=>exact zP5 _ ⟨λh=>(nomatch h),λ_=>H1 t ht⟩
theorem zQd (h:zCS ρ w b s vs mb g) {k:Int->World->Prop} (H:k s.now w):Cl zA zIV [.pointer (ptrA b)].toArray w (λe w'=>∃ r0:Int,e=.returned (.int .u64 r0)/\k r0 w'):=by
 refine zIS (ptrA b) w k ?_
 unfold zFD
 refine zKQ _ ⟨λh=>(nomatch h),λ_=>⟨trivial,?_⟩⟩
 exact yy ZV yK h.row.at s.now rfl H
end
def zFe (s:St):Tx:=⟨s.now,[],λ_=>none⟩
open Classical in
noncomputable def zCR (s:St):St:={s with given:=s.given+1,tx:=upd s.tx (s.given+1) (zFe s)}
def zKR (ρ:Own) (n:Int) (tb wb:Nat):Own:=λk=>if k=tb then some (.tb n) else if k=wb then some (.wb n) else ρ k
theorem zJ5 {ρ:Own} {w:World} {b:Nat} {s:St} (h:Mgr ρ w b s) (hg0:0<=s.given) (hg:s.given<4611686018427387904) (hfree:s.tx (s.given+1)=none) {k:Int->Int->World->Prop}
  (H0:∀ ks,Doms s.tx ks->16<=ks.length->k 0 3 w)
  (H1:∀ ks ρ' w',Doms s.tx ks->ks.length<16->Mgr ρ' w' b (zCR s)->Ext ρ w ρ' w'->k (s.given+1) 0 w'):
  Cl zA zFf [.pointer (ptrA b)].toArray w (λe w'=>∃ (r0 r1:Int),e=.returned (.tuple [.int .i64 r0,.int .i64 r1].toArray)/\k r0 r1 w'):=by
 obtain ⟨vs,mb,g,m⟩:=h
 refine zHR (ptrA b) w k ?_
 unfold zEM
 refine zKQ _ ⟨λh=>(nomatch h),λ_=>⟨trivial,?_⟩⟩
 refine yy zBP zBQ m.row.at (some mb) rfl ?_
 refine zME m.mp zJb zBO λks hks=>?_
 have hks':Doms s.tx ks:=⟨hks.1,λn=>by
  rw [hks.2]
  show (∃ v,(s.tx n).map (λ_=>(some ⟨(g n).tb,0,none⟩:Option Addr))=some v)↔_
  constructor
  ·rintro ⟨v,hv⟩
   cases ht:s.tx n with
   |none=>rw [ht] at hv;cases hv
   |some t=>exact ⟨t,rfl⟩
  ·rintro ⟨t,ht⟩;rw [ht];exact ⟨_,rfl⟩⟩
 refine ⟨λhc=>H0 ks hks' (by omega),λhc=>⟨trivial,?_⟩⟩
 refine yy zBr zBs m.row.at s.given rfl ⟨trivial,?_⟩
 rw [wr64 (by omega) (by omega)]
 refine ⟨_,w,zBr _ _,?_⟩
 refine zHU zBs m.row rfl (by simp) rfl λw1 hR g1=>?_
 replace hR:Row w1 b [Sl.v vs,.int .u64 s.low,.int .u64 s.now,.int .i64 (s.given+1),.map (some mb)] Zq:=hR
 have hb1:=Ext.grown g1 m.rmg
 have m1:w.heap.size<=w1.heap.size:=g1.size
 refine ⟨λW=>Row W b [Sl.v vs,.int .u64 s.low,.int .u64 s.now,.int .i64 (s.given+1),.map (some mb)] Zq,λw2 b2=>⟨hR.bel b2,trivial,?_⟩⟩
 refine zFX zBP ⟨trivial,?_⟩
 refine zFX zBr ⟨trivial,?_⟩
 refine zFX ZV ?_
 refine zCy zBQ (some mb) (λW hW=>hW.at.fld rfl) ?_
 refine zCy zBs (s.given+1) (λW hW=>hW.at.fld rfl) ?_
 refine zCy yK s.now (λW hW=>hW.at.fld rfl) ?_
 refine zMf (ek:=zY) (ev:=zI.v) λhM=>?_
 have b3:=Bel.alloc w2 (.map #[] 0)
 generalize hw3:w2.alloc (.map #[] 0)=w3 at hM b3 ⊢
 have s3:w3.heap.size=w2.heap.size+1:=by rw [← hw3];exact size_alloc' _ _
 refine ⟨(hR.bel b2).bel b3,?_⟩
 refine ⟨⟨s.now,Sl.none,some w2.heap.size⟩,λW _=>by kernel_rfl,?_⟩
 refine zJ2 (cs:=[.int .u64 s.now,Sl.v Sl.none,.map (some w2.heap.size)]) rfl ?_
 have hT:Row (w3.alloc (.cells [.int .u64 s.now,Sl.v Sl.none,.map (some w2.heap.size)].toArray zA5)) w3.heap.size [.int .u64 s.now,Sl.v Sl.none,.map (some w2.heap.size)] zA5:=Row.new _ _ _
 have b4:=Bel.alloc w3 (.cells [.int .u64 s.now,Sl.v Sl.none,.map (some w2.heap.size)].toArray zA5)
 generalize hw4:w3.alloc (.cells [.int .u64 s.now,Sl.v Sl.none,.map (some w2.heap.size)].toArray zA5)=w4 at hT b4 ⊢
 have s4:w4.heap.size=w3.heap.size+1:=by rw [← hw4];exact size_alloc' _ _
 have hR4:=((hR.bel b2).bel b3).bel b4
 refine ⟨hR4,?_⟩
 have b24:=(b2.trans b3).trans b4
 have hlt:=m.lt
 have s2:=b2.le
 have hmne:mb≠b:=λe=>by have:=m.rom;rw [e,m.rmg] at this;cases this
 have hmp4:Zr (zV .i64) zC w4 mb (λn=>(s.tx n).map λ_=>some ⟨(g n).tb,0,none⟩):=(m.mp.grown g1 (by simpa using hmne.symm)).bel b24
 refine zOb hmp4 zK4 zBO (s.given+1) (ptrA w3.heap.size) λw5 hM5 g5=>?_
 have hR5:=hR4.grown g5 (by simpa using hmne)
 refine ⟨hR5,trivial,?_⟩
 have hE:Ext ρ w ρ w5:=(hb1.trans (Ext.bel b24)).trans (Ext.grown g5 m.rom)
 have s5:=g5.size
 have hlow:∀ k,ρ k≠none->k≠w3.heap.size/\k≠w2.heap.size:=λk hk=>by have:=hlt k hk;omega
 have hρ:∀ k,k<w.heap.size->zKR ρ (s.given+1) w3.heap.size w2.heap.size k=ρ k:=λk hk=>by
  unfold zKR;rw [if_neg (by omega),if_neg (by omega)]
 have hkeep:∀ k r,ρ k=some r->r≠.mg->r≠.om->w5.heap[k]?=w.heap[k]?:=λk r hk h1 h2=>by
  have hkl:=hlt k (by rw [hk];simp)
  have e1:k≠b:=λe=>by rw [e,m.rmg] at hk;cases hk;exact h1 rfl
  have e2:k≠mb:=λe=>by rw [e,m.rom] at hk;cases hk;exact h2 rfl
  rw [g5.block k (by have:=b24.le;omega) (by simpa using e2),b24.block k (by omega),g1.block k hkl (by simpa using e1)]
 refine yy zBr zBs hR5.at (s.given+1) rfl ?_
 refine H1 ks (zKR ρ (s.given+1) w3.heap.size w2.heap.size) w5 hks' (by omega) ⟨vs,mb,λn=>if n=s.given+1 then ⟨w3.heap.size,w2.heap.size,Sl.none⟩ else g n,?_⟩ ⟨hE.out,hρ⟩
 exact {
  row:=hR5
  rmg:=(hρ b (hlt b (by rw [m.rmg];simp))).trans m.rmg
  vers:=m.vers.keep λk hk=>hkeep k .ve (m.rve k hk) (by simp) (by simp)
  rve:=λk hk=>(hρ k (hlt k (by rw [m.rve k hk];simp))).trans (m.rve k hk)
  mp:=by
   have:(λn=>((zCR s).tx n).map λ_=>(some ⟨(if n=s.given+1 then ⟨w3.heap.size,w2.heap.size,Sl.none⟩ else g n:Gh).tb,0,none⟩:Option Addr))=upd (λn=>(s.tx n).map λ_=>(some ⟨(g n).tb,0,none⟩:Option Addr)) (s.given+1) (ptrA w3.heap.size):=by
    funext n
    unfold zCR
    by_cases hn:n=s.given+1
    ·subst hn;simp [Ql]
    ·simp [yT _ _ hn,hn]
   rw [this];exact hM5
  rom:=(hρ mb (hlt mb (by rw [m.rom];simp))).trans m.rom
  tx:=λn t ht=>by
   unfold zCR at ht
   by_cases hn:n=s.given+1
   ·subst hn
    simp only [Ql] at ht
    cases ht
    simp only [if_true]
    have e3:w3.heap.size≠mb:=by have:=hlt mb (by rw [m.rom];simp);omega
    have e2:w2.heap.size≠mb:=by have:=hlt mb (by rw [m.rom];simp);omega
    exact {
     row:=hT.grown g5 (by simpa using e3.symm)
     rtb:=by simp [zKR]
     rd:=OwnS.nil _ _ _ _ _
     rrd:=λk hk=>by cases hk
     wr:=(hM.bel b4).grown g5 (by simpa using e2.symm)
     rwb:=by simp only [zKR];rw [if_neg (by omega),if_pos trivial]}
   ·simp only [yT _ _ hn] at ht
    simp only [if_neg hn]
    exact (m.tx n t ht).keep hlt hρ (λk hk=>hkeep k _ hk (by simp) (by simp)) (λk hk=>hkeep k _ hk (by simp) (by simp)) (λk hk=>hkeep k _ hk (by simp) (by simp))
  lt:=λk hk=>by
   unfold zKR at hk
   split at hk
   ·rename_i e;subst e;omega
   ·split at hk
    ·rename_i e;subst e;omega
    ·have:=hlt k hk;have:=b24.le;omega}
end Go.Proofs.YtealcoghiaeiiaaGreat.VG
set_option linter.unusedVariables false
namespace Go.Proofs.YtealcoghiaeiiaaGreat.VG
open Go.VB Go.Proofs Go.RowKit
theorem zLx {κ ν:Type} {ek:κ->Value} {ev:ν->Value} {P:Program} {kt et mt:TypeId} {b:Nat} {f:κ->Option ν} {C:World->Prop} (h:∀ w,C w->Zr ek ev w b f) (K:zEy P kt ek) (hm:P.underlying mt=some (.map kt et)) {z:ν} (hz:∀ w,(zeroValue et).run P w=.ok (ev z) w) (x:κ) {k:ν × Bool->Prop} (H:k ((f x).getD z,(f x).isSome)):
  opC C P (λp:ν × Bool=>.tuple [ev p.1,.bool p.2].toArray) (Instr.lookup mt (.map (some b)) (ek x) true) k:=⟨_,λw' hb=>(h w' hb).run_lookOk K hm hz x,H⟩
theorem zO4 {κ ν:Type} {ek:κ->Value} {ev:ν->Value} {P:Program} {kt et mt:TypeId} {b:Nat} {f:κ->Option ν} {w:World} (h:Zr ek ev w b f) (K:zEy P kt ek) (hm:P.underlying mt=some (.map kt et)) {z:ν} (hz:∀ w,(zeroValue et).run P w=.ok (ev z) w) (x:κ) {k:ν × Bool->World->Prop} (H:k ((f x).getD z,(f x).isSome) w):
  opE P (λp:ν × Bool=>.tuple [ev p.1,.bool p.2].toArray) (Instr.lookup mt (.map (some b)) (ek x) true) w k:=⟨_,w,h.run_lookOk K hm hz x,H⟩
abbrev zLu:Wri:=⟨noB,noB,false⟩
open Classical in
noncomputable def setTx (s:St) (n:Int) (t:Tx):St:={s with tx:=upd s.tx n t}
open Classical in
theorem zCS.setTx {ρ ρ':Own} {w w':World} {b:Nat} {s:St} {vs:Sl} {mb:Nat} {g:Int->Gh} (h:zCS ρ w b s vs mb g) {n:Int} {t t':Tx} (ht:s.tx n=some t) {g':Gh} (hg:g'.tb=(g n).tb)
  (hρ:∀ k,k<w.heap.size->ρ' k=ρ k) (hlt:∀ k,ρ' k≠none->k<w'.heap.size) (hk:∀ k r,ρ k=some r->r≠.tb n->r≠.wb n->r≠.rb n->w'.heap[k]?=w.heap[k]?) (ht':TxAt ρ' w' n t' g'):
  zCS ρ' w' b (setTx s n t') vs mb (λm=>if m=n then g' else g m) where
 row:=h.row.keep (hk b _ h.rmg (by simp) (by simp) (by simp))
 rmg:=(hρ b (h.lt b (by rw [h.rmg];simp))).trans h.rmg
 vers:=h.vers.keep λk h1=>hk k _ (h.rve k h1) (by simp) (by simp) (by simp)
 rve k h1:=(hρ k (h.lt k (by rw [h.rve k h1];simp))).trans (h.rve k h1)
 mp:=by
  have:(λm=>((VG.setTx s n t').tx m).map λ_=>(some ⟨(if m=n then g' else g m:Gh).tb,0,none⟩:Option Addr))=(λm=>(s.tx m).map λ_=>(some ⟨(g m).tb,0,none⟩:Option Addr)):=by
   funext m
   unfold VG.setTx
   by_cases hm:m=n
   ·subst hm;simp [Ql,ht,hg]
   ·simp [yT _ _ hm,hm]
  rw [this]
  exact h.mp.keep (hk mb _ h.rom (by simp) (by simp) (by simp))
 rom:=(hρ mb (h.lt mb (by rw [h.rom];simp))).trans h.rom
 tx m u hu:=by
  by_cases hm:m=n
  ·subst hm
   simp only [VG.setTx,Ql] at hu;cases hu
   simp only [if_true];exact ht'
  ·simp only [VG.setTx,yT _ _ hm] at hu
   simp only [if_neg hm]
   exact (h.tx m u hu).keep h.lt hρ (λk h1=>hk k _ h1 (by simp [hm]) (by simp) (by simp)) (λk h1=>hk k _ h1 (by simp) (by simp [hm]) (by simp)) (λk h1=>hk k _ h1 (by simp) (by simp) (by simp [hm]))
 lt:=hlt
noncomputable def putW (t:Tx) (x:Wri):Tx:={t with wr:=upd t.wr x.Key x}
theorem zJr {ρ:Own} {w:World} {b:Nat} {s:St} (h:Mgr ρ w b s) (n:Int) (x:Wri) {k:Int->World->Prop}
  (H0:s.tx n=none->∀ w',Bel w w'->k 11 w')
  (H1:∀ t,s.tx n=some t->zBJ x->∀ w',Bel w w'->k 4 w')
  (H2:∀ t ks,s.tx n=some t->¬ zBJ x->t.wr x.Key=none->Doms t.wr ks->256<=ks.length->∀ w',Bel w w'->k 3 w')
  (H3:∀ t w',s.tx n=some t->¬ zBJ x->(t.wr x.Key=none->∃ ks,Doms t.wr ks/\ks.length<256)->Mgr ρ w' b (setTx s n (putW t x))->Ext ρ w ρ w'->k 0 w'):
  Cl zA zCE [.pointer (ptrA b),.int .i64 n,zI.v x].toArray w (λe w'=>∃ r0:Int,e=.returned (.int .i64 r0)/\k r0 w'):=by
 obtain ⟨vs,mb,g,m⟩:=h
 refine zHl (ptrA b) n x w k ?_
 unfold zER
 refine zA7 (cs:=x.cells) rfl λB w1 b1 hX hB=>?_
 refine zNJ (m.bel b1) n (λht=>⟨λ_=>H0 ht w1 b1,λh=>absurd (by decide) h⟩) λt ht=>⟨λh=>absurd rfl h,λ_=>?_⟩
 have mt:=m.tx n t ht
 have hrow:=mt.row.bel b1
 have hwr:=mt.wr.bel b1
 refine ⟨Bel w1,λu bu=>⟨bu,trivial,?_⟩⟩
 refine zFX zAF ?_
 refine zFX yj ?_
 refine zCy QZ (some (g n).wb) (λW hW=>(hrow.bel hW).at.fld rfl) ?_
 refine zCy zn x.Key (λW hW=>(hX.bel hW).at.fld rfl) ?_
 refine zLx (z:=zLu) (λW hW=>hwr.bel hW) zH2 YR zGs x.Key ?_
 refine zFJ zAl λC w2 b2 hZ hC=>?_
 refine ⟨bu.trans b2,?_⟩
 refine zIC y6 hZ rfl rfl rfl λw3 hZ3 g3=>?_
 have b13:Bel w1 w3:=(bu.trans b2).grown g3 λr hr=>by cases hr;have:=bu.le;omega
 refine ⟨b13,?_⟩
 have hX3:=hX.bel b13
 refine yy yj zn hX3.at x.Key rfl ?_
 have b03:=b1.trans b13
 have J3:∀ W (c:Bool),Bel w W->Row W B x.cells Za->¬ zBJ x->(c=true->∃ ks,t.wr x.Key=none/\Doms t.wr ks/\256<=ks.length)->(c=false->t.wr x.Key=none->∃ ks,Doms t.wr ks/\ks.length<256)->Zz k (ptrA B) (ptrA (g n).tb) c W:=by
  intro W c hb hXW hl hc1 hc0
  unfold Zz
  refine ⟨λhc=>?_,λhc=>?_⟩
  ·obtain ⟨ks,h1,h2,h3⟩:=hc1 hc
   exact H2 t ks ht hl h1 h2 h3 W hb
  ·refine ⟨λW'=>Row W' (g n).tb [.int .u64 t.began,Sl.v (g n).rs,.map (some (g n).wb)] zA5/\Row W' B x.cells Za,λu bu2=>?_⟩
   have hbu:=hb.trans bu2
   have hT:=mt.row.bel hbu
   refine ⟨⟨hT,hXW.bel bu2⟩,trivial,?_⟩
   refine zFX zAF ?_
   refine zFX yj ?_
   refine zCy QZ (some (g n).wb) (λW hW=>hW.1.at.fld rfl) ?_
   refine zCy zn x.Key (λW hW=>hW.2.at.fld rfl) ?_
   refine zM7 y6 x rfl (λW hW=>hW.2.at) rfl ?_
   refine zOb (mt.wr.bel hbu) zH2 YR x.Key x λw5 hM5 g5=>?_
   have htw:(g n).tb≠(g n).wb:=λe=>by have:=mt.rtb;rw [e,mt.rwb] at this;cases this
   have hltw:=m.lt (g n).wb (by rw [mt.rwb];simp)
   have hBw:B≠(g n).wb:=by omega
   have hT5:=hT.grown g5 (by simpa using htw.symm)
   refine ⟨⟨hT5,(hXW.bel bu2).grown g5 (by simpa using hBw.symm)⟩,?_⟩
   have hE:=(Ext.bel hbu).trans (Ext.grown g5 mt.rwb)
   have hkeep:∀ k,ρ k≠none->k≠(g n).wb->w5.heap[k]?=w.heap[k]?:=λk hk hne=>by
    have:=m.lt k hk
    rw [g5.block k (by have:=hbu.le;omega) (by simpa using hne),hbu.block k this]
   refine H3 t w5 ht hl (hc0 hc) ⟨vs,mb,_,m.setTx ht (g':=g n) rfl (λ_ _=>rfl) (λk hk=>by have:=m.lt k hk;have:=hE.out.size;omega) (λk r hk h1 h2 h3=>hkeep k (by rw [hk];simp) λe=>?_) ?_⟩ hE
   ·rw [e,mt.rwb] at hk;cases hk;exact h2 rfl
   ·exact {
     row:=hT5
     rtb:=mt.rtb
     rd:=mt.rd.keep λk hk=>hkeep k (by rw [mt.rrd k hk];simp) λe=>by have:=mt.rrd k hk;rw [e,mt.rwb] at this;cases this
     rrd:=mt.rrd
     wr:=hM5
     rwb:=mt.rwb}
 have J2:∀ W (c:Bool),Bel w W->Row W B x.cells Za->(c=true↔zBJ x)->Z1 k (ptrA B) (ptrA (g n).tb) ((t.wr x.Key).getD zLu,(t.wr x.Key).isSome) c W:=by
  intro W c hb hXW hc
  unfold Z1
  refine ⟨λh1=>H1 t ht (hc.1 h1) W hb,λh1=>?_⟩
  have hl:¬ zBJ x:=λh2=>by rw [hc.2 h2] at h1;cases h1
  refine ⟨λh2=>⟨trivial,?_⟩,λh2=>?_⟩
  ·have hno:t.wr x.Key=none:=by
    cases hx:t.wr x.Key with
    |none=>rfl
    |some y=>rw [hx] at h2;simp at h2
   refine yy zAF QZ (mt.row.bel hb).at (some (g n).wb) rfl ?_
   refine zME (mt.wr.bel hb) zH0 YR λks hks=>?_
   refine J3 W _ hb hXW hl (λh3=>⟨ks,hno,hks,by have:=of_decide_eq_true h3;omega⟩) λh3 _=>⟨ks,hks,by have:=of_decide_eq_false h3;omega⟩
  ·refine J3 W false hb hXW hl (λh=>(nomatch h)) λ_ hno=>?_
   rw [hno] at h2;simp at h2
 refine ⟨λhc=>J2 w3 true b03 hX3 ⟨λ_=>.inl (by omega),λ_=>rfl⟩,λhc=>?_⟩
 refine yy zAE zn hX3.at x.Val rfl ?_
 refine J2 w3 _ b03 hX3 ?_
 unfold zBJ
 simp only [decide_eq_true_eq]
 omega
section
variable {ρ:Own} {w:World} {b:Nat} {s:St}
theorem zMF (n:Int) (key val:ByteArray) {p:Option Addr} {k:Int->World->Prop} (H:Cl zA zCE [.pointer p,.int .i64 n,zI.v ⟨key,val,false⟩].toArray w (λe w'=>∃ r0:Int,e=.returned (.int .i64 r0)/\k r0 w')):
  Cl zA zF2 [.pointer p,.int .i64 n,.string key,.string val].toArray w (λe w'=>∃ r0:Int,e=.returned (.int .i64 r0)/\k r0 w'):=by
 refine zIW p n key val w k ?_
 unfold zFH
 exact ⟨⟨key,val,false⟩,w,by kernel_rfl,H⟩
theorem zNy (n:Int) (key:ByteArray) {p:Option Addr} {k:Int->World->Prop} (H:Cl zA zCE [.pointer p,.int .i64 n,zI.v ⟨key,noB,true⟩].toArray w (λe w'=>∃ r0:Int,e=.returned (.int .i64 r0)/\k r0 w')):
  Cl zA zFQ [.pointer p,.int .i64 n,.string key].toArray w (λe w'=>∃ r0:Int,e=.returned (.int .i64 r0)/\k r0 w'):=by
 refine zHF p n key w k ?_
 unfold zDp
 exact ⟨⟨key,noB,true⟩,w,by kernel_rfl,H⟩
end
end Go.Proofs.YtealcoghiaeiiaaGreat.VG
set_option linter.unusedVariables false
namespace Go.Proofs.YtealcoghiaeiiaaGreat.VG
open Go.VB Go.Proofs Go.RowKit
def addR (t:Tx) (x:Spn):Tx:={t with reads:=t.reads++[x]}
theorem zNi {ρ:Own} {w:World} {b:Nat} {s:St} {vs:Sl} {mb:Nat} {g:Int->Gh} (m:zCS ρ w b s vs mb g) {n:Int} {t:Tx} (ht:s.tx n=some t) (hroom:t.reads.length<1000) (x:Spn) {k:World->Prop}
  (H:∀ ρ' w' g',(g' n).tb=(g n).tb->(g' n).wb=(g n).wb->zCS ρ' w' b (setTx s n (addR t x)) vs mb g'->Ext ρ w ρ' w'->k w'):
  opE zA Sl.v (zc zEg 1 [(0,z8.v x)].toArray) w (λy w=>opE zA Sl.v (Builtin.append_ #[zEg,zEg] zEg [Sl.v (g n).rs,Sl.v y].toArray) w (λz w=>
   QS (.pointer (ptrA (g n).tb))/\opE zA zC (zO zA5 (.pointer (ptrA (g n).tb)) 1) w (λq w=>opU zA (zK zEg (.pointer q) (Sl.v z)) w k))):=by
 have mt:=m.tx n t ht
 refine zLM mt.rd (λ_=>rfl) (λ_=>rfl) (by decide) zFx zG6 rfl (by decide) (zHo x) (Nat.zero_le _) (by omega) λz w1 hO g1 hq=>⟨trivial,?_⟩
 have hrow1:Row w1 (g n).tb [.int .u64 t.began,Sl.v (g n).rs,.map (some (g n).wb)] zA5:=mt.row.grown g1 λe=>by
  have:=mt.rrd _ e;rw [mt.rtb] at this;cases this
 refine ⟨_,w1,zBG _ _,?_⟩
 refine zHU zBm hrow1 (by cases z with|mk a l c=>cases a<;>rfl) (by simp) (by cases z with|mk a l c=>cases a<;>rfl) λw2 hR g2=>?_
 replace hR:Row w2 (g n).tb [.int .u64 t.began,Sl.v z,.map (some (g n).wb)] zA5:=hR
 have hzt:(Sl.v z).ownBlock≠some (g n).tb:=OwnS.ne_row hO hrow1 (by decide)
 have hO2:=hO.kept g2 (.inr hzt)
 let ρ':Own:=λk=>if (Sl.v z).ownBlock=some k then some (.rb n) else ρ k
 have hρ:∀ k,k<w.heap.size->ρ' k=ρ k:=λk hk=>by
  show (if (Sl.v z).ownBlock=some k then _ else _)=_
  split
  ·rename_i e
   rcases hq k e with h1|h1
   ·exact (mt.rrd k h1).symm
   ·omega
  ·rfl
 have hs1:=g1.size
 have hs2:=g2.size
 have hkeep:∀ k r,ρ k=some r->r≠.tb n->r≠.rb n->w2.heap[k]?=w.heap[k]?:=λk r hk h1 h2=>by
  have hkl:=m.lt k (by rw [hk];simp)
  rw [g2.block k (by omega) λe=>by injection e with e;rw [e,mt.rtb] at hk;cases hk;exact h1 rfl,g1.block k hkl λe=>by
   have:=mt.rrd k e.symm;rw [hk] at this;cases this;exact h2 rfl]
 have hE:Ext ρ w ρ' w2:=⟨(Out.row (S:=λk=>ρ k≠none) g1 λk hk=>.inl (by show ρ k≠none;rw [mt.rrd k hk];simp)).trans (Out.row (S:=λk=>ρ k≠none) g2 λk hk=>by cases hk;exact .inl (by show ρ _≠none;rw [mt.rtb];simp)) λ_ _ h=>h,hρ⟩
 refine H ρ' w2 (λm=>if m=n then ⟨(g n).tb,(g n).wb,z⟩ else g m) (by simp) (by simp) (m.setTx ht rfl hρ (λk hk=>?_) (λk r hk h1 h2 h3=>hkeep k r hk h1 h3) ?_) hE
 ·by_cases e:(Sl.v z).ownBlock=some k
  ·exact hO2.lt e
  ·have:ρ k≠none:=by
    have h1:(if (Sl.v z).ownBlock=some k then some (Role.rb n) else ρ k)≠none:=hk
    rw [if_neg e] at h1;exact h1
   have:=m.lt k this;omega
 ·exact {
   row:=hR
   rtb:=(hρ _ (m.lt _ (by rw [mt.rtb];simp))).trans mt.rtb
   rd:=hO2
   rrd:=λk hk=>by show (if (Sl.v z).ownBlock=some k then _ else _)=_;rw [if_pos hk]
   wr:=mt.wr.keep (hkeep _ _ mt.rwb (by simp) (by simp))
   rwb:=(hρ _ (m.lt _ (by rw [mt.rwb];simp))).trans mt.rwb}
noncomputable def tget (s:St) (t:Tx) (key:ByteArray):ByteArray × Bool × Int:=match t.wr key with
 |some x=>(x.Val,!x.Gone,0)
 |none=>vget s.l s.low key t.began
abbrev zIo (key:ByteArray):Spn:=⟨key,noB,true⟩
theorem zOj {ρ:Own} {w:World} {b:Nat} {s:St} (h:Mgr ρ w b s) (n:Int) (key:ByteArray) {k:ByteArray->Bool->Int->World->Prop}
  (H0:s.tx n=none->k noB false 11 w)
  (H1:∀ t,s.tx n=some t->256<key.size->k noB false 4 w)
  (H2:∀ t,s.tx n=some t->¬ 256<key.size->256<=t.reads.length->k noB false 3 w)
  (H3:∀ t ρ' w',s.tx n=some t->¬ 256<key.size->t.reads.length<256->Mgr ρ' w' b (setTx s n (addR t (zIo key)))->Ext ρ w ρ' w'->k (tget s t key).1 (tget s t key).2.1 (tget s t key).2.2 w'):
  Cl zA zIT [.pointer (ptrA b),.int .i64 n,.string key].toArray w (λe w'=>∃ (r0:ByteArray) (r1:Bool) (r2:Int),e=.returned (.tuple [.string r0,.bool r1,.int .i64 r2].toArray)/\k r0 r1 r2 w'):=by
 obtain ⟨vs,mb,g,m⟩:=h
 refine zIX (ptrA b) n key w k ?_
 unfold zFG
 refine zNJ m n (λht=>⟨λ_=>H0 ht,λh=>absurd (by decide) h⟩) λt ht=>⟨λh=>absurd rfl h,λ_=>⟨λhl=>H1 t ht (by omega),λhl=>⟨trivial,?_⟩⟩⟩
 have mt:=m.tx n t ht
 have hrl:=mt.rd.len
 refine yy zBG zBm mt.row.at (g n).rs rfl ?_
 refine ⟨λhc=>H2 t ht (by omega) (by omega),λhc=>⟨trivial,?_⟩⟩
 refine yy zBG zBm mt.row.at (g n).rs rfl ?_
 refine ⟨zIo key,w,by kernel_rfl,?_⟩
 refine zNi m ht (by omega) (zIo key) λρ' w1 g' eg ew m1 hE=>⟨trivial,?_⟩
 have ht1:(setTx s n (addR t (zIo key))).tx n=some (addR t (zIo key)):=by simp [setTx,Ql]
 have mt1:=m1.tx n _ ht1
 have fin:∀ W,Bel w1 W->k (tget s t key).1 (tget s t key).2.1 (tget s t key).2.2 W:=λW hW=>H3 t ρ' W ht (by omega) (by omega) ⟨vs,mb,g',m1.bel hW⟩ (hE.trans (Ext.bel hW))
 have hT1:Row w1 (g n).tb [.int .u64 t.began,Sl.v (g' n).rs,.map (some (g n).wb)] zA5:=by have:=mt1.row;rw [eg,ew] at this;exact this
 have hM1:Zr zY zI.v w1 (g n).wb t.wr:=by have:=mt1.wr;rw [ew] at this;exact this
 refine yy zAF QZ hT1.at (some (g n).wb) rfl ?_
 refine zO4 (z:=zLu) hM1 zH2 YR zGs key ?_
 refine zCT zAl rfl y6 (cs:=((t.wr key).getD zLu).cells) rfl rfl rfl λC w2 b2 hX _=>?_
 refine ⟨λhi=>?_,λhi=>⟨trivial,?_⟩⟩
 ·obtain ⟨x,hx⟩:=Option.isSome_iff_exists.1 hi
  have hv:tget s t key=(x.Val,!x.Gone,0):=by unfold tget;rw [hx]
  rw [hx] at hX
  refine zF7 zAE zn hX.at x.Val rfl ?_
  refine zF7 zBH zDe hX.at x.Gone rfl ?_
  intro w3 b3
  have:=fin w3 (b2.trans b3)
  rw [hv] at this;exact this
 ·have hno:t.wr key=none:=by
   cases hx:t.wr key with
   |none=>rfl
   |some y=>rw [hx] at hi;simp at hi
  have hv:tget s t key=vget s.l s.low key t.began:=by unfold tget;rw [hno]
  have m2:=m1.bel b2
  refine ⟨_,λW hW=>xS _ _,?_⟩
  refine zHT z7 (cs:=[Sl.v vs,.int .u64 s.low]) ⟨vs,s.low⟩ rfl (λj v hj=>by
   have h1:=m2.row.at
   rw [zFs]
   refine h1 (0+j) v ?_
   match j,hj with
   |0,hj=>exact hj
   |1,hj=>exact hj) rfl ⟨trivial,?_⟩
  refine zF7 zEC yK (hT1.bel b2).at t.began rfl ?_
  refine ⟨(vget s.l s.low key t.began).1,(vget s.l s.low key t.began).2.1,(vget s.l s.low key t.began).2.2,λW hW=>?_,?_⟩
  ·refine (zPn (x0:=⟨vs,s.low⟩) (m2.vers.bel hW) key t.began (k:=λa c d w'=>a=(vget s.l s.low key t.began).1/\c=(vget s.l s.low key t.began).2.1/\d=(vget s.l s.low key t.began).2.2/\Bel W w') λw' hb=>⟨rfl,rfl,rfl,hb⟩).mono λe w' ⟨a,c,d,he,h1,h2,h3,h4⟩=>?_
   subst h1;subst h2;subst h3
   exact ⟨he,h4⟩
  ·intro w3 b3
   have:=fin w3 (b2.trans b3)
   rw [hv] at this;exact this
end Go.Proofs.YtealcoghiaeiiaaGreat.VG
set_option linter.unusedVariables false
namespace Go.Proofs.YtealcoghiaeiiaaGreat.VG
open Go.VB Go.Proofs Go.RowKit
theorem zFg {α:Type}:∀ {l m:List α},l.Nodup->(∀ x∈l,x∈m)->l.length<=m.length:=by
 intro l m hl h
 classical
 induction l generalizing m with
 |nil=>simp
 |cons a l ih=>
  obtain ⟨h1,h2⟩:=List.nodup_cons.1 hl
  have ha:a∈m:=h a (by simp)
  have:=ih (m:=m.erase a) h2 λx hx=>(List.mem_erase_of_ne (λe=>h1 (by rw [← e];exact hx))).2 (h x (by simp [hx]))
  rw [List.length_erase_of_mem ha] at this
  have:0<m.length:=List.length_pos_of_mem ha
  simp only [List.length_cons];omega
noncomputable def delTx (s:St) (n:Int):St:={s with tx:=del s.tx n}
structure zGN (s:St) (lo:Int):Prop where
 now:lo<=s.now
 all:∀ n t,s.tx n=some t->lo<=t.began
 hit:lo=s.now∨∃ n t,s.tx n=some t/\lo=t.began
theorem zGN.le {s:St} {a c:Int} (h:zGN s a) (k:zGN s c):a<=c:=by
 rcases k.hit with e|⟨n,t,h1,e⟩
 ·rw [e];exact h.now
 ·rw [e];exact h.all n t h1
theorem zGN.one {s:St} {a c:Int} (h:zGN s a) (k:zGN s c):a=c:=Int.le_antisymm (h.le k) (k.le h)
open Classical in
noncomputable def zJs (s:St):Int:=if h:∃ lo,zGN s lo then h.choose else 0
theorem zGN.eq {s:St} {lo:Int} (h:zGN s lo):lo=zJs s:=by
 have:∃ lo,zGN s lo:=⟨lo,h⟩
 unfold zJs;rw [dif_pos this]
 exact h.one this.choose_spec
noncomputable def zIn (s:St):St:=if (zDB s.l s.low (zJs s)).2.2=0 then {s with l:=(zDB s.l s.low (zJs s)).1,low:=(zDB s.l s.low (zJs s)).2.1} else s
noncomputable def zAc (s:St) (n:Int):St:=zIn (delTx s n)
section
variable {ρ:Own} {w w':World} {b:Nat} {s:St} {vs:Sl} {mb:Nat} {g:Int->Gh}
theorem zCS.versAt (m:zCS ρ w b s vs mb g):At w ((⟨b,0,none⟩:Addr).add 0) [Sl.v vs,.int .u64 s.low]:=λj v hj=>by
 have h1:=m.row.at
 rw [zFs]
 refine h1 (0+j) v ?_
 match j,hj with
 |0,hj=>exact hj
 |1,hj=>exact hj
theorem zCS.delTx (m:zCS ρ w b s vs mb g) (n:Int) (hM:Zr (zV .i64) zC w' mb (del (λn=>(s.tx n).map λ_=>(some ⟨(g n).tb,0,none⟩:Option Addr)) n)) (hg:w.grownBy w' (some mb)):zCS ρ w' b (delTx s n) vs mb g:=by
 have hkeep:∀ k r,ρ k=some r->r≠.om->w'.heap[k]?=w.heap[k]?:=λk r hk h1=>hg.block k (m.lt k (by rw [hk];simp)) λe=>by injection e with e;rw [e,m.rom] at hk;cases hk;exact h1 rfl
 exact {
  row:=m.row.keep (hkeep _ _ m.rmg (by simp))
  rmg:=m.rmg
  vers:=m.vers.keep λk hk=>hkeep k _ (m.rve k hk) (by simp)
  rve:=m.rve
  mp:=by
   have:(λk=>((VG.delTx s n).tx k).map λ_=>(some ⟨(g k).tb,0,none⟩:Option Addr))=del (λn=>(s.tx n).map λ_=>(some ⟨(g n).tb,0,none⟩:Option Addr)) n:=by
    funext k
    unfold VG.delTx
    by_cases hk:k=n
    ·subst hk;simp [zEX]
    ·simp [zBT _ hk]
   rw [this];exact hM
  rom:=m.rom
  tx:=λk t ht=>by
   have hk:k≠n:=λe=>by subst e;simp [VG.delTx,zEX] at ht
   have ht':s.tx k=some t:=by simpa [VG.delTx,zBT _ hk] using ht
   exact (m.tx k t ht').keep m.lt (λ_ _=>rfl) (λj h1=>hkeep j _ h1 (by simp)) (λj h1=>hkeep j _ h1 (by simp)) (λj h1=>hkeep j _ h1 (by simp))
  lt:=λk hk=>xf (m.lt k hk) hg.size}
theorem zCS.setVers (m:zCS ρ w b s vs mb g) {r:Sl} {l:List Ver} {low now:Int} (hr:zEd w r l) (hnew:∀ k,(Sl.v r).ownBlock=some k->k<w.heap.size/\ρ k=none) (hg:w.grownBy w' (some b))
  (hR:Row w' b [Sl.v r,.int .u64 low,.int .u64 now,.int .i64 s.given,.map (some mb)] Zq):
  zCS (λk=>if (Sl.v r).ownBlock=some k then some .ve else ρ k) w' b {s with l:=l,low:=low,now:=now} r mb g:=by
 have hsz:=hg.size
 have hold:∀ k r',ρ k=some r'->(if (Sl.v r).ownBlock=some k then some Role.ve else ρ k)=some r':=λk r' hk=>by
  split
  ·rename_i e;rw [(hnew k e).2] at hk;cases hk
  ·exact hk
 have hkeep:∀ k r,ρ k=some r->r≠.mg->w'.heap[k]?=w.heap[k]?:=λk r hk h1=>hg.block k (m.lt k (by rw [hk];simp)) λe=>by injection e with e;rw [e,m.rmg] at hk;cases hk;exact h1 rfl
 exact {
  row:=hR
  rmg:=hold _ _ m.rmg
  vers:=hr.keep λk hk=>hg.block k (hnew k hk).1 λe=>by injection e with e;have:=(hnew k hk).2;rw [e,m.rmg] at this;cases this
  rve:=λk hk=>if_pos hk
  mp:=m.mp.keep (hkeep _ _ m.rom (by simp))
  rom:=hold _ _ m.rom
  tx:=λk t ht=>by
   have h:=m.tx k t ht
   exact {
    row:=h.row.keep (hkeep _ _ h.rtb (by simp))
    rtb:=hold _ _ h.rtb
    rd:=h.rd.keep λj hj=>hkeep j _ (h.rrd j hj) (by simp)
    rrd:=λj hj=>hold _ _ (h.rrd j hj)
    wr:=h.wr.keep (hkeep _ _ h.rwb (by simp))
    rwb:=hold _ _ h.rwb}
  lt:=λk hk=>by
   by_cases e:(Sl.v r).ownBlock=some k
   ·have:=(hnew k e).1;omega
   ·have h1:(if (Sl.v r).ownBlock=some k then some Role.ve else ρ k)≠none:=hk
    rw [if_neg e] at h1
    have:=m.lt k h1;omega}
theorem zQn (h:Mgr ρ w b s) (n:Int) {Ret:World->Prop} (H:∀ ρ' w',Mgr ρ' w' b (zAc s n)->Ext ρ w ρ' w'->Ret w'):zCk (ptrA b) n w Ret:=by
 obtain ⟨vs,mb,g,m⟩:=h
 unfold zCk
 refine ⟨trivial,?_⟩
 refine yy zBP zBQ m.row.at (some mb) rfl ?_
 refine zRN m.mp zK4 zBO n λw1 hM g1=>?_
 have m1:=m.delTx n hM g1
 have hE1:Ext ρ w ρ w1:=Ext.grown g1 m.rom
 unfold zAc at H
 generalize VG.delTx s n=s1 at m1 H
 refine ⟨trivial,?_⟩
 refine yy ZV yK m1.row.at s1.now rfl ⟨trivial,?_⟩
 refine yy zBP zBQ m1.row.at (some mb) rfl ?_
 obtain ⟨es,c,mAt⟩:=m1.mp
 obtain ⟨dom,hdom,_⟩:=mAt.doms zJb
 clear mAt
 refine zOG m1.mp zBO λw2 hi b2=>?_
 have hmb:mb<w1.heap.size:=m1.mp.lt
 generalize hR:w1.heap.size=R at hi hmb ⊢
 refine ⟨λx W=>∃ ks,zAz (zV .i64) zC W mb R (λn=>(s1.tx n).map λ_=>some ⟨(g n).tb,0,none⟩) ks/\Bel w1 W/\x<=s1.now/\(∀ k∈ks,∀ t,s1.tx k=some t->x<=t.began)/\(x=s1.now∨∃ k t,k∈ks/\s1.tx k=some t/\x=t.began),λ_ W=>dom.length - zGl W R,⟨[],hi,b2,Int.le_refl _,by simp,.inl rfl⟩,?_⟩
 rintro x W ⟨ks,hi1,hb1,hx1,hx2,hx3⟩
 unfold zBi
 refine zMY hi1 (by omega) zJb (λhall=>?_) λy v W2 hy hn hi2 hg=>?_
 ·refine ⟨λ_=>⟨trivial,?_⟩,λk v e=>by cases e⟩
  have hlow:x=zJs s1:=zGN.eq ⟨hx1,λk t ht=>hx2 k (hall k (some ⟨(g k).tb,0,none⟩) (by rw [ht];rfl)) t ht,by
   rcases hx3 with h|⟨k,t,_,h1,h2⟩
   ·exact .inl h
   ·exact .inr ⟨k,t,h1,h2⟩⟩
  have mW:=m1.bel hb1
  have hEW:=hE1.trans (Ext.bel hb1)
  refine ⟨_,W,xS _ _,?_⟩
  refine zBI z7 (cs:=[Sl.v vs,.int .u64 s1.low]) ⟨vs,s1.low⟩ rfl mW.versAt rfl ?_
  refine zNp (x0:=⟨vs,s1.low⟩) mW.vers x λr W3 base h1 hO b3=>?_
  refine zCT zAa rfl z7 (cs:=[Sl.v r,.int .u64 (zDB s1.l s1.low x).2.1]) rfl (by cases r with|mk a l c=>cases a<;>rfl) rfl λC W4 b4 hX _=>?_
  have m4:=(mW.bel b3).bel b4
  have hE4:=hEW.trans (Ext.bel (b3.trans b4))
  unfold zIn at H
  rw [← hlow] at H
  refine ⟨λhz=>?_,λhz=>?_⟩
  ·rw [if_pos hz] at H
   refine zBI z7 (cs:=[Sl.v r,.int .u64 (zDB s1.l s1.low x).2.1]) ⟨r,(zDB s1.l s1.low x).2.1⟩ rfl hX.at rfl ⟨trivial,?_⟩
   refine ⟨_,W4,xS _ _,?_⟩
   refine zP9 z7 (vs:=[Sl.v r,.int .u64 (zDB s1.l s1.low x).2.1]) (off:=0) m4.row rfl (by simp) (by cases r with|mk a l c=>cases a<;>rfl) λW5 hR5 g5=>?_
   have hO4:=hO.bel b4
   have hnew:∀ k,(Sl.v r).ownBlock=some k->k<W4.heap.size/\ρ k=none:=λk hk=>by
    refine ⟨hO4.lt hk,?_⟩
    have h2:=hO.lo hk
    cases hρ:ρ k with
    |none=>rfl
    |some r0=>
     have h3:=m.lt k (by rw [hρ];simp)
     have h4:=hEW.out.size
     omega
   have m5:=m4.setVers (Zg.rd hO4) hnew g5 hR5
   refine H _ W5 ⟨_,_,_,m5⟩ ⟨hE4.out.trans (Out.row (S:=λk=>ρ k≠none) g5 λk hk=>by cases hk;exact .inl (by show ρ _≠none;rw [m.rmg];simp)) λ_ _ h=>h,λk hk=>if_neg λe=>?_⟩
   have h2:=hO.lo e
   have h4:=hEW.out.size
   omega
  ·rw [if_neg hz] at H
   exact H ρ W4 ⟨_,_,_,m4⟩ hE4
 ·refine ⟨λe=>(nomatch e),λk v' e=>?_⟩
  cases e
  have hb2:Bel w1 W2:=hb1.grown hg λr e=>by cases e;omega
  cases ht:s1.tx y with
  |none=>rw [ht] at hy;cases hy
  |some t=>
   have hv:v=ptrA (g y).tb:=by rw [ht] at hy;simpa using hy.symm
   subst hv
   have hcl:(ks++[y]).length<=dom.length:=zFg hi2.nd λz hz=>(hdom.2 z).2 (hi2.dom z hz)
   rw [zy,List.length_singleton] at hcl
   have hl1:=hi1.size
   have hl2:=hi2.size
   rw [zy,List.length_singleton] at hl2
   refine zHN hi2 hy zJb ⟨trivial,?_⟩
   refine yy zEC yK ((m1.bel hb2).tx y t ht).row.at t.began rfl ?_
   refine ⟨⟨ks++[y],hi2,hb2,?_,λk hk u hu=>?_,?_⟩,by dsimp only;omega⟩
   ·split<;>omega
   ·rcases List.mem_append.1 hk with hk|hk
    ·have:=hx2 k hk u hu
     split<;>omega
    ·simp at hk;subst hk
     rw [ht] at hu;cases hu
     split<;>omega
   ·split
    ·exact .inr ⟨y,t,by simp,ht,rfl⟩
    ·rcases hx3 with h|⟨k,u,h1,h2,h3⟩
     ·exact .inl h
     ·exact .inr ⟨k,u,by simp [h1],h2,h3⟩
theorem zLE (h:Mgr ρ w b s) (n:Int) {k:World->Prop} (H:∀ ρ' w',Mgr ρ' w' b (zAc s n)->Ext ρ w ρ' w'->k w'):
  opD zA zH9 [.pointer (ptrA b),.int .i64 n] w k:=ClD.mono (zHS (ptrA b) n w k (zQn h n H)) λe w' h=>⟨⟨_,h.1⟩,h.2⟩
end
end Go.Proofs.YtealcoghiaeiiaaGreat.VG
set_option linter.unusedVariables false
namespace Go.Proofs.YtealcoghiaeiiaaGreat.VG
open Go.VB Go.Proofs Go.RowKit
theorem getE {α:Type} {l:List α} {n:Nat} (h:n<l.length):∃ x,l[n]?=some x:=⟨l[n]'h,by simp⟩
theorem zIr {α:Type} {l:List α} {n:Nat} {x:α} (h:l[n]?=some x) (p:α->Bool) (hn:(l.take n).any p=false):(l.take (n+1)).any p=p x:=by
 rw [zB9 h,List.any_append,hn];simp
theorem zKj {α:Type} {l:List α} {n:Nat} {x:α} (h:l[n]?=some x) (p:α->Bool) (hp:p x=true):l.any p=true:=List.any_eq_true.2 ⟨x,List.mem_of_getElem? h,hp⟩
def zIm (fv:Value) (p:zG->Bool) (l:List zG) (w:World):Prop:=∀ d∈l,∀ w' (k:Bool->World->Prop),Bel w w'->(∀ w'',Bel w' w''->k (p d) w'')->zF5 zA fv [zG.v d] w' (λe w''=>∃ r:Bool,e=.returned (.bool r)/\k r w'')
theorem zIG {w:World} {x:Sl} {l:List zG} (hd:Rd zG.cells 4 w x l) {fv:Value} {p:zG->Bool} (hp:zIm fv p l w) {k:Bool->World->Prop} (H:∀ w',Bel w w'->k (l.any p) w'):
  Cl zA zAO [Sl.v x,fv].toArray w (λe w'=>∃ r0:Bool,e=.returned (.bool r0)/\k r0 w'):=by
 have dbig:=hd.big;have dcap:=hd.cap;have dlen:=hd.len
 refine zAP x _ w k ?_
 unfold Qs
 refine zAk x _ w _ ?_
 unfold YN
 refine ⟨λi w1=>∃ n:Nat,i=(n:Int)/\n<=l.length/\Bel w w1/\(l.take n).any p=false,λi _=>(x.len - i).toNat,⟨0,rfl,by omega,Bel.refl _,by simp⟩,?_⟩
 rintro i w1 ⟨n,rfl,hn,hb,hno⟩
 unfold yp
 refine ⟨λhc=>?_,λhc=>?_⟩
 ·obtain ⟨d,hdn⟩:=getE (l:=l) (n:=n) (by omega)
  refine zDR (hd.bel hb) yk QN (by omega) (x:=d) (by simpa using hdn) λad hA=>?_
  refine zBI yI d rfl hA rfl ?_
  refine hp d (List.mem_of_getElem? hdn) w1 _ hb λw2 b2=>⟨λht=>?_,λhf=>?_⟩
  ·dsimp only
   rw [decide_eq_true (p:=0<=(n:Int)) (by omega),← zKj hdn p ht]
   exact H w2 (hb.trans b2)
  ·rw [wr64 (by omega) (by omega)]
   exact ⟨⟨n+1,by omega,by omega,hb.trans b2,by rw [zIr hdn p hno];exact hf⟩,by dsimp only;omega⟩
 ·obtain rfl:n=l.length:=by omega
  rw [List.take_length] at hno
  have:=H w1 hb
  rw [hno] at this
  exact this
def zJj (fv:Value) (p:z8->Bool) (l:List z8) (w:World):Prop:=∀ d∈l,∀ w' (k:Bool->World->Prop),Bel w w'->(∀ w'',Bel w' w''->k (p d) w'')->zF5 zA fv [z8.v d] w' (λe w''=>∃ r:Bool,e=.returned (.bool r)/\k r w'')
theorem zJT {w:World} {x:Sl} {l:List z8} (hd:Rd z8.cells 3 w x l) {fv:Value} {p:z8->Bool} (hp:zJj fv p l w) {k:Bool->World->Prop} (H:∀ w',Bel w w'->k (l.any p) w'):
  Cl zA zDL [Sl.v x,fv].toArray w (λe w'=>∃ r0:Bool,e=.returned (.bool r0)/\k r0 w'):=by
 have dbig:=hd.big;have dcap:=hd.cap;have dlen:=hd.len
 refine zDE x _ w k ?_
 unfold Zc
 refine zEA x _ w _ ?_
 unfold Z9
 refine ⟨λi w1=>∃ n:Nat,i=(n:Int)/\n<=l.length/\Bel w w1/\(l.take n).any p=false,λi _=>(x.len - i).toNat,⟨0,rfl,by omega,Bel.refl _,by simp⟩,?_⟩
 rintro i w1 ⟨n,rfl,hn,hb,hno⟩
 unfold Yd
 refine ⟨λhc=>?_,λhc=>?_⟩
 ·obtain ⟨d,hdn⟩:=getE (l:=l) (n:=n) (by omega)
  refine zDR (hd.bel hb) zFx zJu (by omega) (x:=d) (by simpa using hdn) λad hA=>?_
  refine zBI zFB d rfl hA rfl ?_
  refine hp d (List.mem_of_getElem? hdn) w1 _ hb λw2 b2=>⟨λht=>?_,λhf=>?_⟩
  ·dsimp only
   rw [decide_eq_true (p:=0<=(n:Int)) (by omega),← zKj hdn p ht]
   exact H w2 (hb.trans b2)
  ·rw [wr64 (by omega) (by omega)]
   exact ⟨⟨n+1,by omega,by omega,hb.trans b2,by rw [zIr hdn p hno];exact hf⟩,by dsimp only;omega⟩
 ·obtain rfl:n=l.length:=by omega
  rw [List.take_length] at hno
  have:=H w1 hb
  rw [hno] at this
  exact this
def zFy (fv:Value) (p:zL->Bool) (l:List zL) (w:World):Prop:=∀ d∈l,∀ w' (k:Bool->World->Prop),Bel w w'->(∀ w'',Bel w' w''->k (p d) w'')->zF5 zA fv [zL.v d] w' (λe w''=>∃ r:Bool,e=.returned (.bool r)/\k r w'')
theorem zJV {w:World} {x:Sl} {l:List zL} (hd:Rd zL.cells 2 w x l) {fv:Value} {p:zL->Bool} (hp:zFy fv p l w) {k:Bool->World->Prop} (H:∀ w',Bel w w'->k (l.any p) w'):
  Cl zA zDC [Sl.v x,fv].toArray w (λe w'=>∃ r0:Bool,e=.returned (.bool r0)/\k r0 w'):=by
 have dbig:=hd.big;have dcap:=hd.cap;have dlen:=hd.len
 refine zDH x _ w k ?_
 unfold Zf
 refine zBU x _ w _ ?_
 unfold Y6
 refine ⟨λi w1=>∃ n:Nat,i=(n:Int)/\n<=l.length/\Bel w w1/\(l.take n).any p=false,λi _=>(x.len - i).toNat,⟨0,rfl,by omega,Bel.refl _,by simp⟩,?_⟩
 rintro i w1 ⟨n,rfl,hn,hb,hno⟩
 unfold QL
 refine ⟨λhc=>?_,λhc=>?_⟩
 ·obtain ⟨d,hdn⟩:=getE (l:=l) (n:=n) (by omega)
  refine zDR (hd.bel hb) Yq zAK (by omega) (x:=d) (by simpa using hdn) λad hA=>?_
  refine zBI ZI d rfl hA rfl ?_
  refine hp d (List.mem_of_getElem? hdn) w1 _ hb λw2 b2=>⟨λht=>?_,λhf=>?_⟩
  ·dsimp only
   rw [decide_eq_true (p:=0<=(n:Int)) (by omega),← zKj hdn p ht]
   exact H w2 (hb.trans b2)
  ·rw [wr64 (by omega) (by omega)]
   exact ⟨⟨n+1,by omega,by omega,hb.trans b2,by rw [zIr hdn p hno];exact hf⟩,by dsimp only;omega⟩
 ·obtain rfl:n=l.length:=by omega
  rw [List.take_length] at hno
  have:=H w1 hb
  rw [hno] at this
  exact this
def zBS (x:Spn) (key:ByteArray):Bool:=if x.only=true then decide (key=x.from_) else (!sLt key x.from_)&&(decide (x.to_=noB)||sLt key x.to_)
theorem zMo (x:Spn) (key:ByteArray) (w:World) {k:Bool->World->Prop} (H:∀ w',Bel w w'->k (zBS x key) w'):
  Cl zA zJU [z8.v x,.string key].toArray w (λe w'=>∃ r0:Bool,e=.returned (.bool r0)/\k r0 w'):=by
 refine zJQ x key w k ?_
 unfold zFz zB8 zCC
 refine zA7 (cs:=x.cells) rfl λB w1 b1 hX _=>?_
 refine yy zIv zDe hX.at x.only rfl ?_
 have h:=H w1 b1
 unfold zBS at h
 refine ⟨λho=>?_,λho=>?_⟩
 ·rw [if_pos ho] at h
  exact yy zGI zn hX.at x.from_ rfl h
 ·rw [if_neg (by simp [ho])] at h
  refine yy zGI zn hX.at x.from_ rfl ⟨λh1=>?_,λh1=>?_⟩
  ·rw [h1] at h
   refine yy zG9 zn hX.at x.to_ rfl ⟨λh2=>?_,λh2=>?_⟩
   ·rw [show decide (x.to_=noB)=true from decide_eq_true h2] at h
    exact h
   ·rw [show decide (x.to_=noB)=false from decide_eq_false h2] at h
    exact yy zG9 zn hX.at x.to_ rfl h
  ·rw [h1] at h
   exact h
def conf (t:Tx) (v:Ver):Bool:=decide (t.began<v.At)&&t.reads.any (λx=>zBS x v.Key)
theorem zNh (x:Spn) {w:World} {B:Nat} {v:Ver} (hB:Row w B v.cells yE) {k:Bool->World->Prop} (H:∀ w',Bel w w'->k (zBS x v.Key) w'):
  Cl zA zCw [z8.v x,.pointer (ptrA B)].toArray w (λe w'=>∃ r0:Bool,e=.returned (.bool r0)/\k r0 w'):=by
 refine zFk x (ptrA B) w k ?_
 unfold zBj
 refine zA7 (cs:=x.cells) rfl λC w1 b1 hX _=>?_
 refine zBI zFB x rfl hX.at rfl ?_
 refine yy Y7 zn (hB.bel b1).at v.Key rfl ?_
 exact zMo x v.Key w1 λw2 b2=>H w2 (b1.trans b2)
theorem zN2 (v:Ver) {w:World} {B tb wb:Nat} {rs:Sl} {t:Tx} (hB:Row w B [.pointer (ptrA tb)] zEx) (hT:Row w tb [.int .u64 t.began,Sl.v rs,.map (some wb)] zA5) (hR:Rd z8.cells 3 w rs t.reads) {k:Bool->World->Prop} (H:∀ w',Bel w w'->k (conf t v) w'):
  Cl zA zDw [zG.v v,.pointer (ptrA B)].toArray w (λe w'=>∃ r0:Bool,e=.returned (.bool r0)/\k r0 w'):=by
 refine zGC v (ptrA B) w k ?_
 unfold zBw ZM
 refine zA7 (cs:=v.cells) rfl λC w1 b1 hX _=>?_
 have hB1:=hB.bel b1
 have hT1:=hT.bel b1
 refine zF7 zAU yK hX.at v.At rfl ?_
 refine zLe zBK (ptrA tb) hB1.cell ⟨trivial,?_⟩
 refine zF7 zEC yK hT1.at t.began rfl ⟨λhc=>?_,λhc=>?_⟩
 ·refine zLe zBK (ptrA tb) hB1.cell ⟨trivial,?_⟩
  refine zF7 zBG zBm hT1.at rs rfl ?_
  refine ⟨t.reads.any (λx=>zBS x v.Key),λW hW=>?_,λW hW=>?_⟩
  ·refine (zJT (hR.bel (b1.trans hW)) (p:=λx=>zBS x v.Key) (λd _ w' k' hb hk=>.inl ⟨zCw,[],[.pointer (ptrA C)],rfl,zQ2,zNh d ((hX.bel hW).bel hb) hk⟩) (k:=λr w'=>r=t.reads.any (λx=>zBS x v.Key)/\Bel W w') λw' hb=>⟨rfl,hb⟩).mono λe w' ⟨r,he,hr,hb⟩=>⟨by rw [he,hr],hb⟩
  ·have:=H W (b1.trans hW)
   unfold conf at this
   rw [decide_eq_true hc,Bool.true_and] at this
   exact this
 ·intro W hW
  have:=H W (b1.trans hW)
  unfold conf at this
  rw [decide_eq_false hc,Bool.false_and] at this
  exact this
theorem zLG {ρ:Own} {w:World} {b:Nat} {s:St} {vs:Sl} {mb:Nat} {g:Int->Gh} (m:zCS ρ w b s vs mb g) {n:Int} {t:Tx} (ht:s.tx n=some t) {k:Bool->World->Prop} (H:∀ w',Bel w w'->k (s.l.any (conf t)) w'):
  Cl zA zGO [.pointer (ptrA b),.pointer (ptrA (g n).tb)].toArray w (λe w'=>∃ r0:Bool,e=.returned (.bool r0)/\k r0 w'):=by
 refine zGT (ptrA b) (ptrA (g n).tb) w k ?_
 unfold zCU
 refine zA7 (cs:=[.pointer (ptrA (g n).tb)]) rfl λB w1 b1 hB _=>⟨trivial,?_⟩
 have m1:=m.bel b1
 have mt:=m1.tx n t ht
 refine ⟨_,w1,xS _ _,?_⟩
 refine yy yB yA m1.versAt vs rfl ?_
 exact zIG m1.vers (p:=conf t) (λd _ w' k' hb hk=>.inl ⟨zDw,[],[.pointer (ptrA B)],rfl,zRD,zN2 d (hB.bel hb) (mt.row.bel hb) ((mt.rd.rd λ_=>rfl).bel hb) hk⟩) λw2 b2=>H w2 (b1.trans b2)
end Go.Proofs.YtealcoghiaeiiaaGreat.VG
set_option linter.unusedVariables false
namespace Go.Proofs.YtealcoghiaeiiaaGreat.VG
open Go.VB Go.VB.Srt Go.Proofs Go.RowKit
abbrev zDj (base:Nat) (w:World) (s:Sl) (l:List Wri):Prop:=OwnS zI.cells 3 Za base w s l
theorem zDj.rd {base:Nat} {w:World} {s:Sl} {l:List Wri} (h:zDj base w s l):zHs w s l:=OwnS.rd h (λ_=>rfl)
abbrev encW (x:Wri):List Value:=[zI.v x]
theorem zLl {κ ν:Type} {w w':World} {ek:κ->Value} {ev:ν->Value} {b r:Nat} {f:κ->Option ν} {ks:List κ} (h:zAz ek ev w b r f ks) (hk:KeepsWalks w w'):zAz ek ev w' b r f ks:=by
 obtain ⟨c,sb,h1⟩:=h.blk
 obtain ⟨es,c',h2⟩:=h.mapLt
 exact h.keep ((hk.same b _ h2 rfl).trans h2.symm) ((hk.same r _ h1 rfl).trans h1.symm)
theorem KeepsWalks.row {w w':World} {row:Option Nat} (hg:w.grownBy w' row) (hr:∀ r,row=some r->∃ cs t fr,w.heap[r]?=some (.cells cs t fr)):KeepsWalks w w':=
 ⟨hg.size,λk o hk ho=>(hg.block k (Array.getElem?_eq_some_iff.1 hk).1 (λe=>by
  obtain ⟨cs,t,fr,h⟩:=hr k e.symm
  rw [h] at hk;cases hk;cases ho)).trans hk⟩
def zKi (f:ByteArray->Option Wri) (xs:List Wri):Prop:=∃ ks,Doms f ks/\xs=ks.filterMap f
theorem zGQ {α β:Type} (f:α->Option β) (ks:List α) (h:∀ k∈ks,∃ v,f k=some v):(ks.filterMap f).length=ks.length:=by
 induction ks with
 |nil=>rfl
 |cons a ks ih=>
  obtain ⟨v,hv⟩:=h a (by simp)
  rw [List.filterMap_cons_some hv,List.length_cons,List.length_cons,ih λk hk=>h k (by simp [hk])]
theorem zMb {w:World} {f:ByteArray->Option Wri} {b b1:Nat} (h:Zr zY zI.v w b f) (h1:Row w b1 [.map (some b)] zGY) {dom:List ByteArray} (hd:Doms f dom):
  SeqStopsK (FW none) 0 zA ZP [.pointer (some ⟨b1,0,none⟩)].toArray (λx=>(encW x).toArray) KeepsWalks (zKi f) (λ_=>True) dom.length w:=by
 intro l' J Jx W hW hJ hJx hY h0
 have C:=zBZ (.func (.yield l') #[] #[]) (some ⟨b1,0,none⟩) W (λw'=>(∃ xs,zKi f xs/\J xs w')∨(∃ pre,True/\Jx pre w')) ?_
 ·exact CallsIn.mono C λe w' hr=>⟨⟨_,hr.1⟩,hr.2⟩
 unfold YG
 refine zAS QZ (some b) (h1.bel hW).cell ?_
 refine zOG (h.bel hW) YR λW1 hi hb1=>?_
 have hblt:b<W.heap.size:=(h.bel hW).lt
 have hj0:J [] W1:=hJ _ _ _ none h0 (zf hb1 none) (λr e=>by cases e)
 generalize hR:W.heap.size=R at hi hblt ⊢
 refine ⟨λw1=>∃ ks,zAz zY zI.v w1 b R f ks/\J (ks.filterMap f) w1,λw1=>dom.length - zGl w1 R,⟨[],hi,hj0⟩,?_⟩
 rintro w1 ⟨ks,hi1,hj1⟩
 unfold yf
 refine zMY hi1 (by omega) zH0 (λhall=>?_) λx v w2 hx hn hi2 hg=>?_
 ·exact ⟨λ_=>.inl ⟨_,⟨ks,⟨hi1.nd,λx=>⟨hi1.dom x,λ⟨v,hv⟩=>hall x v hv⟩⟩,rfl⟩,hj1⟩,λk v e=>by cases e⟩
 ·refine ⟨λe=>(nomatch e),λk v' e=>?_⟩
  cases e
  have hj2:J (ks.filterMap f) w2:=hJ _ _ _ (some R) hj1 hg (λr e=>by
   cases e
   obtain ⟨c,sb,hb⟩:=hi1.blk
   exact ⟨by omega,_,hb,rfl⟩)
  have hcl:(ks++[x]).length<=dom.length:=zFg hi2.nd λy hy=>(hd.2 y).2 (hi2.dom y hy)
  have hl1:=hi1.size
  rw [zy,List.length_singleton] at hcl
  have hfl:=zGQ f ks hi1.dom
  refine zHN hi2 hx zH0 ?_
  refine zCT zAl rfl y6 (cs:=v.cells) rfl rfl rfl λC w3 b3 hX _=>?_
  have hj3:J (ks.filterMap f) w3:=hJ _ _ _ none hj2 (zf b3 none) (λr e=>by cases e)
  have hi3:=hi2.bel b3
  refine zBI y6 v rfl hX.at rfl ?_
  refine .inr ⟨l',rfl,YieldAt.mono (hY _ v w3 hj3 (by omega)) λe' w4 hr=>?_⟩
  rcases hr with ⟨rfl,hj4,hk⟩|⟨rfl,hj4⟩
  ·refine ⟨true,rfl,λh=>(nomatch h),λ_=>?_⟩
   have hi4:=zLl hi3 hk
   refine ⟨⟨_,hi4,by rw [List.filterMap_append,List.filterMap_cons_some hx];exact hj4⟩,?_⟩
   have hl3:=hi4.size
   rw [zy,List.length_singleton] at hl3
   dsimp only
   omega
  ·exact ⟨false,rfl,λ_=>.inr ⟨_,trivial,hj4⟩,λh=>(nomatch h)⟩
theorem zNu {w:World} {f:ByteArray->Option Wri} {b:Nat} (h:Zr zY zI.v w b f) {dom:List ByteArray} (hd:Doms f dom) {k:Value->World->Prop}
  (H:∀ v w',zIs zA v encW KeepsWalks (zKi f) (λ_=>True) dom.length w'->Bel w w'->k v w'):
  Cl zA zBk [.map (some b)].toArray w (λe w'=>∃ v:Value,e=.returned v/\k v w'):=by
 refine zBh (some b) w k ?_
 unfold YU
 refine zA7 (cs:=[.map (some b)]) rfl λB w1 b1 hr1 _=>?_
 exact H _ _ ⟨ZP,_,rfl,zQu,zMb (h.bel b1) hr1 hd⟩ b1
theorem zOI {base:Nat} {w0 w:World} {s:Sl} {l:List Wri} {x:Wri} {k:Sl->World->Prop} (hO:zDj base w s l) (hB:Bel w0 w) (hb:w0.heap.size<=base) (hbw:base<=w.heap.size) (room:l.length+1<=1000000000)
  (H:∀ s' w',zDj base w' s' (l++[x])->Bel w0 w'->w.grownBy w' (Sl.v s).ownBlock->k s' w'):
  opE zA Sl.v (zc zAM 1 [(0,zI.v x)].toArray) w (λy w=>opE zA Sl.v (Builtin.append_ #[zAM,zAM] zAM [Sl.v s,Sl.v y].toArray) w k):=
 zMZ hO (λ_=>rfl) (λ_=>rfl) (by decide) zAR zI4 rfl (by decide) (zJP x) hB hb hbw (by omega) H
theorem zL7 {v:Value} {Sq Sp:List Wri->Prop} {Num:Nat} {w:World} (hs:zIs zA v encW KeepsWalks Sq Sp Num w) (hN:Num<=100000000) {k:Sl->World->Prop}
  (H:∀ r w' xs base,w.heap.size<=base->Sq xs->zDj base w' r xs->Bel w w'->k r w'):Cl zA zFu [v].toArray w (λe w'=>∃ r0:Sl,e=.returned (Sl.v r0)/\k r0 w'):=by
 refine zFt v w k ?_
 unfold zBl
 refine zDb Sl.none v w k ?_
 unfold Zo
 refine zRR rfl ?_
 have hb0:Bel w (w.alloc (.cells [Sl.v Sl.none].toArray zAM)):=Bel.alloc _ _
 have hr0:=Row.new w [Sl.v Sl.none] zAM
 have hsz:(w.alloc (.cells [Sl.v Sl.none].toArray zAM)).heap.size=w.heap.size+1:=size_alloc' _ _
 have hlo0:=hr0.lt
 generalize hB:w.heap.size=B at hr0 hsz hlo0 ⊢
 generalize (w.alloc (.cells [Sl.v Sl.none].toArray zAM))=w1 at hb0 hr0 hsz hlo0 ⊢
 refine ⟨zI.cells,KeepsWalks,Sq,Sp,Num,λpre W=>∃ sl,Row W B [Sl.v sl] zAM/\zDj w1.heap.size W sl pre/\Bel w W/\w1.heap.size<=W.heap.size,λ_ _=>False,
  ⟨hs.later hb0,λ_ _ _=>KeepsWalks.trans,λW l o o' h1 h2 h3 h4=>KeepsWalks.putObj o' h2 h4,λpre W o _=>KeepsWalks.alloc W o,λs W W' row hi hg hr=>?_,λs W W' row hi hg hr=>hi,λpre W hi=>hi.elim λ_ h=>h.2.2.2,⟨Sl.none,hr0,OwnS.nil _ _ _ _ _,hb0,zU _⟩⟩,
  λx W k hk=>zP8 zAl rfl y6 (cs:=x.cells) rfl rfl rfl hk,?_,?_,?_⟩
 ·obtain ⟨sl,h1,h2,h3,h4⟩:=hi
  exact ⟨sl,h1.notwalk hg hr,h2.notwalk hg hr,h3.notwalk (by omega) hg hr,ze h4 hg.size⟩
 ·rintro pre x Bx W hBx hx ⟨sl,h1,h2,h3,h4⟩ hlen
  unfold ZK
  have hx':Row W Bx x.cells Za:=hx
  refine zAS zEj sl h1.cell ?_
  refine zBI y6 x rfl hx'.at rfl ?_
  refine zOI (w0:=w) (w:=W) h2 h3 (by omega) h4 (by omega) λs' w' h5 h6 h7=>?_
  have hne:(Sl.v sl).ownBlock≠some B:=λe=>by have:=h2.lo e;omega
  have hr1:=h1.grown h7 hne
  refine zHV zEj hr1 (by cases s' with|mk a l c=>cases a<;>rfl) (by cases s' with|mk a l c=>cases a<;>rfl) λw'' hr2 hg2=>?_
  refine ⟨(KeepsFrom.row h7 λr hr=>h2.isRow hr).trans (KeepsFrom.row hg2 λr hr=>by cases hr;exact ⟨_,_,_,hr1⟩),(KeepsWalks.row h7 λr hr=>h2.isRow hr).trans (KeepsWalks.row hg2 λr hr=>by cases hr;exact ⟨_,_,_,hr1⟩),s',hr2,h5.kept hg2 ?_,?_,ze h4 (ze h7.size hg2.size)⟩
  ·cases hq:(Sl.v s').ownBlock with
   |none=>exact .inl rfl
   |some q=>
    refine .inr λe=>?_
    have h8:=h5.lo hq
    have h9:=Option.some.inj e
    omega
  ·exact h6.grown hg2 λr hr=>by cases hr;omega
 ·rintro D xs W hD hS ⟨sl,h1,h2,h3,h4⟩ hK
  refine zAS zEj sl h1.cell ?_
  refine ⟨hK,?_⟩
  have hg:=zIO W D
  have hr:∀ r,some D=some r->w1.heap.size<=r/\∃ o:Obj,W.heap[r]?=some o/\o.isCells=false:=λr e=>by cases e;exact ⟨hD,_,hK,rfl⟩
  exact H sl _ xs _ (by omega) hS (h2.notwalk hg hr) (h3.notwalk (by omega) hg hr)
 ·exact λD pre W h1 h2 h3 h4=>trivial
def kltB (a b:Wri):Bool:=sLt a.Key b.Key
theorem zOo:Srt.SWO kltB where
 irr x:=by
  cases h:kltB x x with
  |false=>rfl
  |true=>exact absurd h (Zl x.Key)
 neg x y z h:=by
  unfold kltB at*
  by_cases h1:sLt x.Key y.Key=true
  ·exact .inl h1
  ·right
   by_cases h2:x.Key=y.Key
   ·rw [← h2];exact h
   ·exact zG2 (zD4 h1 h2) h
 asy x y h:=by
  cases h1:kltB y x with
  |false=>rfl
  |true=>exact absurd h1 (zGo h)
theorem zMU (a b:Wri) (w:World) {k:Int->World->Prop} (H:∀ w',Bel w w'->k (cmpS a.Key b.Key) w'):Cl zA zEq [zI.v a,zI.v b].toArray w (λe w'=>∃ r0:Int,e=.returned (.int .i64 r0)/\k r0 w'):=by
 refine zIN a b w k ?_
 unfold zFE
 refine zA7 (cs:=a.cells) rfl λB w1 b1 hA _=>?_
 refine zA7 (cs:=b.cells) rfl λC w2 b2 hB _=>?_
 refine yy yj zn (hA.bel b2).at a.Key rfl ?_
 refine yy yj zn hB.at b.Key rfl ?_
 exact zHb a.Key b.Key w2 (H w2 (b1.trans b2))
theorem zLJ:SoCmpFunc_api_Write.Cmps (.func (.func zEq) #[] #[]) kltB:=λw x y=>
 ⟨cmpS x.Key y.Key,⟨zEq,[],[],rfl,zRC,λw' _=>(zMU x y w' (k:=λr W=>r=cmpS x.Key y.Key/\Bel w' W) λW hb=>⟨rfl,hb⟩).mono λe W ⟨r,he,hr,hb⟩=>⟨by rw [he,hr],hb⟩⟩,by rw [zK2];exact Iff.rfl⟩
def zD0 (f:ByteArray->Option Wri) (ys:List Wri):Prop:=ys.Pairwise (λa b=>sLt a.Key b.Key=true)/\∀ x,x∈ys↔f x.Key=some x
theorem zD0.one {f:ByteArray->Option Wri} {xs ys:List Wri} (h:zD0 f xs) (k:zD0 f ys):xs=ys:=by
 have hm:∀ x,x∈xs↔x∈ys:=λx=>by rw [h.2,k.2]
 have h1:=h.1
 have k1:=k.1
 clear h k
 induction xs generalizing ys with
 |nil=>cases ys with
  |nil=>rfl
  |cons b ys=>exact absurd ((hm b).2 (by simp)) (by simp)
 |cons a xs ih=>
  cases ys with
  |nil=>exact absurd ((hm a).1 (by simp)) (by simp)
  |cons b ys=>
   obtain ⟨h2,h3⟩:=List.pairwise_cons.1 h1
   obtain ⟨k2,k3⟩:=List.pairwise_cons.1 k1
   have hab:a=b:=by
    rcases List.mem_cons.1 ((hm a).1 (by simp)) with e|e
    ·exact e
    ·rcases List.mem_cons.1 ((hm b).2 (by simp)) with e'|e'
     ·exact e'.symm
     ·exact absurd (h2 b e') (zGo (k2 a e))
   subst hab
   rw [ih (λx=>?_) h3 k3]
   constructor
   ·intro hx
    rcases List.mem_cons.1 ((hm x).1 (by simp [hx])) with e|e
    ·subst e;exact absurd (h2 x hx) (Zl _)
    ·exact e
   ·intro hx
    rcases List.mem_cons.1 ((hm x).2 (by simp [hx])) with e|e
    ·subst e;exact absurd (k2 x hx) (Zl _)
    ·exact e
theorem zOz {f:ByteArray->Option Wri} (hk:∀ k x,f k=some x->x.Key=k) {xs ys:List Wri} (hx:zKi f xs) (hp:ys.Perm xs) (hl:ys.Pairwise (λx y=>Le kltB x y)):zD0 f ys/\∃ ks,Doms f ks/\ks.length=ys.length:=by
 obtain ⟨ks,hd,rfl⟩:=hx
 have hmem:∀ x,x∈ys↔f x.Key=some x:=λx=>by
  rw [hp.mem_iff,List.mem_filterMap]
  constructor
  ·rintro ⟨k,_,h⟩
   rw [hk k x h];exact h
  ·exact λh=>⟨x.Key,(hd.2 _).2 ⟨x,h⟩,h⟩
 have hnd:(ks.filterMap f).Pairwise (λx y=>x.Key≠y.Key):=by
  rw [List.pairwise_filterMap]
  refine hd.1.imp λ{a b} hab x hx y hy e=>hab ?_
  rw [← hk a x hx,← hk b y hy,e]
 have hnd':ys.Pairwise (λx y=>x.Key≠y.Key):=(hp.pairwise_iff (λ{x y} h=>h.symm)).2 hnd
 have hstr:ys.Pairwise (λa b=>sLt a.Key b.Key=true):=(hl.and hnd').imp λ{x y} h12=>by
  cases h:sLt x.Key y.Key with
  |true=>rfl
  |false=>
   have h3:sLt y.Key x.Key=true:=zD4 (by rw [h];decide) h12.2
   have h4:sLt y.Key x.Key=false:=h12.1
   rw [h3] at h4;cases h4
 exact ⟨⟨hstr,hmem⟩,ks,hd,by rw [hp.length_eq,zGQ f ks λk hk'=>(hd.2 k).1 hk']⟩
theorem zMg {ρ:Own} {w:World} {n:Int} {t:Tx} {g:Gh} (mt:TxAt ρ w n t g) (hk:∀ k x,t.wr k=some x->x.Key=k) {dom:List ByteArray} (hd:Doms t.wr dom) (hN:dom.length<=100000000) {k:Sl->World->Prop}
  (H:∀ r w' ys base,w.heap.size<=base->zD0 t.wr ys->zDj base w' r ys->Bel w w'->k r w'):
  Cl zA zJB [.pointer (ptrA g.tb)].toArray w (λe w'=>∃ r0:Sl,e=.returned (Sl.v r0)/\k r0 w'):=by
 refine zJE (ptrA g.tb) w k ?_
 unfold zFn
 refine ⟨trivial,?_⟩
 refine yy zAF QZ mt.row.at (some g.wb) rfl ?_
 refine zNu mt.wr hd λv w1 hs b1=>?_
 refine zFS v _ w1 k ?_
 unfold zBN
 refine zL7 hs hN λr w2 xs base hb hS hO hbel=>?_
 refine SoCmpFunc_api_Write.sort_ok zOo zLJ hO λys w3 hp hpw hO2 hg=>?_
 exact H r w3 ys base (ze b1.le hb) (zOz hk hS hp hpw).1 hO2 ((b1.trans hbel).grown hg λq hq=>ze (ze b1.le hb) (hO.lo hq))
end Go.Proofs.YtealcoghiaeiiaaGreat.VG
set_option linter.unusedVariables false
namespace Go.Proofs.YtealcoghiaeiiaaGreat.VG
open Go.VB Go.Proofs Go.RowKit
def putS (s:St) (p:List Ver × Int × Int):St:={s with l:=p.1,low:=p.2.1,now:=s.now+1}
theorem _root_.Go.VB.OwnS.low {α:Type} {c:α->List Value} {n e base base':Nat} {w:World} {s:Sl} {xs:List α} (h:OwnS c n e base w s xs) (hb:base'<=base):OwnS c n e base' w s xs:=by
 refine ⟨h.len,h.small,h.row.1,?_⟩
 rcases h.row.2 with h1|⟨g,cap,cur,h1,h2,h3⟩
 ·exact .inl h1
 ·exact .inr ⟨g,cap,cur,h1,ze hb h2,h3⟩
def Few (t:Tx):Prop:=∃ ks,Doms t.wr ks/\ks.length<=256
def zM5 (t:Tx):Prop:=∀ k x,t.wr k=some x->x.Key=k
theorem wu64 {n:Int} (h0:0<=n) (h1:n<=18446744073709551615):zB .u64 n=n:=IntWalk.u64_in _ ⟨h0,h1⟩
section
variable {ρ:Own} {w:World} {b:Nat} {s:St}
theorem zI6 (h:Mgr ρ w b s) (n:Int) (hF:∀ t,s.tx n=some t->Few t/\zM5 t) (hn0:0<=s.now) (hn1:s.now<4611686018427387904) {k:Sl->Int->Int->World->Prop}
  (H0:s.tx n=none->k Sl.none 0 11 w)
  (H1:∀ t ρ' w',s.tx n=some t->s.l.any (conf t)=true->Mgr ρ' w' b (zAc s n)->Ext ρ w ρ' w'->k Sl.none 0 10 w')
  (H2:∀ t ρ' w',s.tx n=some t->s.l.any (conf t)=false->(∀ x,t.wr x=none)->Mgr ρ' w' b (zAc s n)->Ext ρ w ρ' w'->k Sl.none s.now 0 w')
  (H3:∀ t ys ρ' w',s.tx n=some t->s.l.any (conf t)=false->zD0 t.wr ys->(∃ x,t.wr x≠none)->(vput s.l s.low ys (s.now+1)).2.2≠0->Mgr ρ' w' b (zAc s n)->Ext ρ w ρ' w'->k Sl.none 0 (vput s.l s.low ys (s.now+1)).2.2 w')
  (H4:∀ t ys r ρ' w',s.tx n=some t->s.l.any (conf t)=false->zD0 t.wr ys->(∃ x,t.wr x≠none)->(vput s.l s.low ys (s.now+1)).2.2=0->Mgr ρ' w' b (zAc (putS s (vput s.l s.low ys (s.now+1))) n)->Ext ρ w ρ' w'->
   zDj w.heap.size w' r ys->(∀ q,(Sl.v r).ownBlock=some q->w.heap.size<=q/\q<w'.heap.size/\ρ' q=none)->k r (s.now+1) 0 w'):
  Cl zA zFP [.pointer (ptrA b),.int .i64 n].toArray w (λe w'=>∃ (r0:Sl) (r1:Int) (r2:Int),e=.returned (.tuple [Sl.v r0,.int .u64 r1,.int .i64 r2].toArray)/\k r0 r1 r2 w'):=by
 obtain ⟨vs,mb,g,m⟩:=h
 refine zHE (ptrA b) n w k ?_
 unfold zDi
 refine zNJ m n (λht=>⟨λ_=>H0 ht,λh=>absurd (by decide) h⟩) λt ht=>⟨λh=>absurd rfl h,λ_=>?_⟩
 refine zLG m ht λw1 b1=>?_
 have m1:=m.bel b1
 refine ⟨λhc=>zLE ⟨_,_,_,m1⟩ n λρ' w' hM hE=>H1 t ρ' w' ht hc hM ((Ext.bel b1).trans hE),λhc=>⟨trivial,?_⟩⟩
 have mt1:=m1.tx n t ht
 refine yy zAF QZ mt1.row.at (some (g n).wb) rfl ?_
 refine zME mt1.wr zH0 YR λks hks=>⟨λhz=>⟨trivial,?_⟩,λhz=>?_⟩
 ·have hks0:ks=[]:=List.eq_nil_of_length_eq_zero (by omega)
  have hno:∀ x,t.wr x=none:=λx=>by
   cases hx:t.wr x with
   |none=>rfl
   |some y=>have:=(hks.2 x).2 ⟨y,hx⟩;rw [hks0] at this;cases this
  refine zF7 ZV yK m1.row.at s.now rfl λw2 b2=>?_
  exact zLE ⟨_,_,_,m1.bel b2⟩ n λρ' w' hM hE=>H2 t ρ' w' ht hc hno hM ((Ext.bel (b1.trans b2)).trans hE)
 obtain ⟨⟨dom,hd,hl⟩,hk⟩:=hF t ht
 have hex:∃ x,t.wr x≠none:=by
  cases ks with
  |nil=>exact absurd rfl hz
  |cons x ks=>obtain ⟨y,hy⟩:=(hks.2 x).1 (by simp);exact ⟨x,by rw [hy];simp⟩
 refine zMg mt1 hk hd (by omega) λr w2 ys base hb hS hO b2=>?_
 have b02:=b1.trans b2
 have m2:=m1.bel b2
 have J1:∀ W C r4 base4,Bel w2 W->Row W C [Sl.v r4,.int .u64 (vput s.l s.low ys (s.now+1)).2.1] z9->w2.heap.size<=base4->Zg base4 W r4 (vput s.l s.low ys (s.now+1)).1->
   Zk (ptrA b) n k r (vput s.l s.low ys (s.now+1)).2.2 (ptrA C) W:=by
  intro W C r4 base4 hb2 hC hb4 hO4
  unfold Zk
  have b0W:=b02.trans hb2
  have mW:=m.bel b0W
  refine ⟨λhne=>zLE ⟨_,_,_,mW⟩ n λρ' w' hM hE=>H3 t ys ρ' w' ht hc hS hex hne hM ((Ext.bel b0W).trans hE),λhz0=>?_⟩
  have hz0:=Classical.not_not.1 hz0
  refine zBI z7 ⟨r4,(vput s.l s.low ys (s.now+1)).2.1⟩ rfl hC.at rfl ⟨trivial,?_⟩
  refine ⟨_,W,xS _ _,?_⟩
  refine zP9 z7 (vs:=[Sl.v r4,.int .u64 (vput s.l s.low ys (s.now+1)).2.1]) (off:=0) mW.row rfl (by simp) (by cases r4 with|mk a l c=>cases a<;>rfl) λW1 hR1 g1=>⟨trivial,?_⟩
  replace hR1:Row W1 b [Sl.v r4,.int .u64 (vput s.l s.low ys (s.now+1)).2.1,.int .u64 s.now,.int .i64 s.given,.map (some mb)] Zq:=hR1
  refine yy ZV yK hR1.at s.now rfl ⟨trivial,?_⟩
  rw [wu64 (by omega) (by omega)]
  refine ⟨_,W1,ZV _ _,?_⟩
  refine zHU yK hR1 rfl (by simp) rfl λW2 hR2 g2=>⟨trivial,?_⟩
  replace hR2:Row W2 b [Sl.v r4,.int .u64 (vput s.l s.low ys (s.now+1)).2.1,.int .u64 (s.now+1),.int .i64 s.given,.map (some mb)] Zq:=hR2
  have hg:=zR g1 g2
  have hs2:=b02.le
  have hsW:=hb2.le
  have hsg:=hg.size
  have hnew:∀ q,(Sl.v r4).ownBlock=some q->q<W.heap.size/\ρ q=none:=λq hq=>by
   refine ⟨hO4.lt hq,?_⟩
   have h2:=hO4.lo hq
   cases hρ:ρ q with
   |none=>rfl
   |some r0=>have h3:=m.lt q (by rw [hρ];simp);omega
  have m3:=mW.setVers (Zg.rd hO4) hnew hg hR2
  have hE3:Ext ρ w (λq=>if (Sl.v r4).ownBlock=some q then some .ve else ρ q) W2:=⟨(Ext.bel b0W).out.trans (Out.row (S:=λq=>ρ q≠none) hg λq hq=>by cases hq;exact .inl (by show ρ _≠none;rw [m.rmg];simp)) λ_ _ h=>h,λq hq=>if_neg λe=>by have:=hO4.lo e;omega⟩
  refine zF7 ZV yK hR2.at (s.now+1) rfl λW3 b3=>?_
  refine zLE (s:=putS s (vput s.l s.low ys (s.now+1))) ⟨_,_,_,m3.bel b3⟩ n λρ' w' hM hE=>?_
  have hrq:∀ q,(Sl.v r).ownBlock=some q->w.heap.size<=q/\q<w2.heap.size/\ρ q=none/\(if (Sl.v r4).ownBlock=some q then some Role.ve else ρ q)=none:=λq hq=>by
   have h1:=hO.lo hq
   have h2:=hO.lt hq
   have h3:ρ q=none:=by
    cases hρ:ρ q with
    |none=>rfl
    |some r0=>have h3:=m.lt q (by rw [hρ];simp);have:=b1.le;omega
   refine ⟨by have:=b1.le;omega,h2,h3,?_⟩
   rw [if_neg λe=>by have:=hO4.lo e;omega];exact h3
  have hs3:=b3.le
  refine H4 t ys r ρ' w' ht hc hS hex hz0 hM ((hE3.trans (Ext.bel b3)).trans hE) ((hO.low (ze b1.le hb)).keep λq hq=>?_) λq hq=>?_
  ·obtain ⟨h1,h2,h3,h4⟩:=hrq q hq
   rw [hE.blk (by omega) h4,b3.block q (by omega),hg.block q (by omega) (λe=>by cases e;rw [m.rmg] at h3;cases h3),hb2.block q h2]
  ·obtain ⟨h1,h2,h3,h4⟩:=hrq q hq
   have:=hE.out.size
   exact ⟨h1,by omega,(hE.same q (by omega)).trans h4⟩
 refine ⟨Bel w2,λu bu=>⟨bu,trivial,?_⟩⟩
 refine zFX xS ⟨trivial,?_⟩
 refine zFX ZV ?_
 refine zM7 z7 (cs:=[Sl.v vs,.int .u64 s.low]) ⟨vs,s.low⟩ rfl (λW hW=>(m2.bel hW).versAt) rfl ?_
 refine zCy yK s.now (λW hW=>(m2.bel hW).row.at.fld rfl) ?_
 rw [wu64 (by omega) (by omega)]
 constructor
 ·refine zNA (x0:=⟨vs,s.low⟩) (m2.bel bu).vers ((zDj.rd hO).bel bu) (s.now+1) λr4 w3 base4 hb4 hO4 b3=>?_
  refine ⟨bu.trans b3,?_⟩
  refine zFJ zAa λC w4 b4 hC hC0=>⟨(bu.trans b3).trans b4,?_⟩
  refine zIC z7 (cs':=[Sl.v r4,.int .u64 (vput s.l s.low ys (s.now+1)).2.1]) hC rfl rfl (by cases r4 with|mk a l c=>cases a<;>rfl) λw5 hC5 g5=>?_
  have b3l:=b3.le
  have bul:=bu.le
  have b5:Bel w2 w5:=((bu.trans b3).trans b4).grown g5 λq hq=>by cases hq;omega
  exact ⟨b5,J1 w5 C r4 base4 b5 hC5 (by omega) ((hO4.bel b4).kept g5 (OwnS.ne_row (hO4.bel b4) hC (by decide) |> Or.inr))⟩
 ·refine zFJ zAa λC w3 b3 hC hC0=>⟨bu.trans b3,?_⟩
  refine zNA (x0:=⟨vs,s.low⟩) (m2.bel (bu.trans b3)).vers ((zDj.rd hO).bel (bu.trans b3)) (s.now+1) λr4 w4 base4 hb4 hO4 b4=>?_
  refine ⟨(bu.trans b3).trans b4,?_⟩
  refine zIC z7 (cs':=[Sl.v r4,.int .u64 (vput s.l s.low ys (s.now+1)).2.1]) (hC.bel b4) rfl rfl (by cases r4 with|mk a l c=>cases a<;>rfl) λw5 hC5 g5=>?_
  have b3l:=b3.le
  have bul:=bu.le
  have b5:Bel w2 w5:=((bu.trans b3).trans b4).grown g5 λq hq=>by cases hq;omega
  exact ⟨b5,J1 w5 C r4 base4 b5 hC5 (by omega) (hO4.kept g5 (OwnS.ne_row hO4 (hC.bel b4) (by decide) |> Or.inr))⟩
end
end Go.Proofs.YtealcoghiaeiiaaGreat.VG
set_option linter.unusedVariables false
set_option linter.unusedSimpArgs false
namespace Go.Proofs.YtealcoghiaeiiaaGreat.VG
open Go.VB Go.Proofs
def zEG (Ret:(Option Addr)->Int->World->Prop) (x14:Option Addr) (x21:Int) (Kl1:Int->World->Prop) (x6:Option Addr) (x38:Bool) (w:World):Prop:=
 yG w (λw=>(x38=true->(Ret none 2 w))/\(x38=false->(regC w (λC3 w=>QS (.pointer x14)/\(opC C3 zA zC (zO 87 (.pointer x14) 0) (λx42=>opC C3 zA zC (zO 69 (.pointer x42) 0) (λx43=>opC C3 zA zC (zO 66 (.pointer x6) 0) (λx45=>opC C3 zA zC (zO 66 (.pointer x6) 1) (λx47=>opC C3 zA Sl.v (zD 67 (.pointer x43)) (λx44=>opC C3 zA zY (zD 9 (.pointer x45)) (λx46=>opC C3 zA zY (zD 9 (.pointer x47)) (λx48=>opC C3 zA zG.v (QC 72 [(0,(.string x46)),(1,(.int .u64 1)),(2,(.string x48))].toArray) (λx49=>opE zA Sl.v (zc 67 1 [(0,(zG.v x49))].toArray) w (λx50 w=>C3 w/\(opE zA Sl.v (Builtin.append_ #[67,67] 67 [(Sl.v x44),(Sl.v x50)].toArray) w (λx51 w=>C3 w/\(QS (.pointer x14)/\(opC C3 zA zC (zO 87 (.pointer x14) 0) (λx53=>opC C3 zA zC (zO 69 (.pointer x53) 0) (λx54=>opU zA (zK 67 (.pointer x54) (Sl.v x51)) w (λw=>(Kl1 (zB .i64 (x21+1)) w))))))))))))))))))))))
def zFd (x0:Sl) (Ret:(Option Addr)->Int->World->Prop) (x14:Option Addr) (x21:Int) (w:World) (Kl1:Int->World->Prop):Prop:=
 ((x21<(x0.len:Int))->(opE zA zC (zF 22 (Sl.v x0) (.int .i64 x21)) w (λx24 w=>opE zA zL.v (zD 66 (.pointer x24)) w (λx25 w=>opE zA zC (zk 66 true (.tuple #[])) w (λx6 w=>opU zA (zK 66 (.pointer x6) (zL.v x25)) w (λw=>((0<x21)->(opB zA zC (zF 22 (Sl.v x0) (.int .i64 (zB .i64 (x21 - 1)))) w (λx32=>opB zA zC (zO 66 (.pointer x32) 0) w (λx33=>opB zA zY (zD 9 (.pointer x33)) w (λx34=>opB zA zC (zO 66 (.pointer x6) 0) w (λx35=>opB zA zY (zD 9 (.pointer x35)) w (λx36=>zEG Ret x14 x21 Kl1 x6 (!sLt x34 x36) w)))))))/\(¬ (0<x21)->(zEG Ret x14 x21 Kl1 x6 false w))))))))/\(¬ (x21<(x0.len:Int))->(Ret x14 0 w))
def zI3 (x0:Sl) (w:World) (Ret:(Option Addr)->Int->World->Prop):Prop:=
 ((4096<(x0.len:Int))->(Ret none 3 w))/\(¬ (4096<(x0.len:Int))->(Cl zA 33 [(Sl.v x0),(.func (.func 34) #[] #[])].toArray w (λe w=>∃ (r:Bool),e=.returned (.bool r)/\((r=true->(Ret none 4 w))/\(r=false->(opE zA Value.map (Instr.makeMap 85 none) w (λx12 w=>opE zA zCL.v (QC 87 [(1,(.int .u64 1)),(3,(.map x12))].toArray) w (λx13 w=>opE zA zC (Instr.box 87 (zCL.v x13)) w (λx14 w=>QS (.pointer x14)/\(opE zA zC (zO 87 (.pointer x14) 0) w (λx17 w=>opE zA zC (zO 69 (.pointer x17) 1) w (λx18 w=>opU zA (zK 37 (.pointer x18) (.int .u64 1)) w (λw=>∃ (I:Int->World->Prop) (μ:Int->World->Nat),I 0 w/\∀ (x21:Int) w,I x21 w->zFd x0 Ret x14 x21 w (λx21' w'=>I x21' w'/\μ x21' w'<μ x21 w))))))))))))))
set_option maxRecDepth 100000 in
theorem zMd (x0:Sl) (w:World) (Ret:(Option Addr)->Int->World->Prop) (H:zI3 x0 w Ret):Cl zA 11 [(Sl.v x0)].toArray w (λe w'=>∃ (r0:Option Addr) (r1:Int),e=.returned (.tuple [(.pointer r0),(.int .i64 r1)].toArray)/\Ret r0 r1 w'):=by
 unfold zI3 at H
 refine zl 57 (zipE 0 [(Sl.v x0)]) Tryz.func11 rfl rfl (by rfl) rfl ?_
 intro a g
 replace g:Sat [] 57 [(0,(Sl.v x0))] a:=g
 refine zJ (zE (g.as_ rfl λ_ g=>g.as_ rfl λ_ g=>zM (tn (zJ (zJ (zE (g.mv rfl λ_ g=>g.purR (λw=>ZQ g Tryz.underlying22 rfl) λ_ g=>g.pur (zBC g rfl rfl) λ_ g=>zM (tn (zb g rfl (λhc=>?_) (λhc=>?_))))))))))
 ·replace H:=H.1 hc
  exact zJ (zE (g.as_ rfl λ_ g=>g.as_ rfl λ_ g=>zM (tn (zg (tr (Zu g rfl rfl rfl ⟨_,_,rfl,H⟩))))))
 ·replace H:=H.2 hc
  refine zX (tn (zJ (zJ (zE (g.mv rfl λ_ g=>g.call (zZ g zRT rfl rfl) H λe w H=>?_)))))
  obtain ⟨r,rfl,H⟩:=H
  refine ⟨_,rfl,λ_ g=>(zM (tn (zd g rfl (λhc=>?_) (λhc=>?_))))⟩
  ·replace H:=H.1 hc
   exact zJ (zE (g.as_ rfl λ_ g=>g.as_ rfl λ_ g=>zM (tn (zg (tr (Zu g rfl rfl rfl ⟨_,_,rfl,H⟩))))))
  ·replace H:=H.2 hc
   refine zX (tn (zJ (zE (g.op (zJA) H λx12 w a H g=>g.op (zAg g rfl) H λx13 w a H g=>g.op (zBa g rfl) H λx14 w a H g=>g.as_ rfl λ_ g=>zM (tn (zJ (zE (g.mv rfl λ_ g=>g.pur (zj g rfl H.1) λ_ g=>?_))))))))
   replace H:=H.2
   refine g.op (zS g rfl) H λx17 w a H g=>g.op (zS g rfl) H λx18 w a H g=>g.opu (zT g rfl rfl) H λw a H g=>zM (tn (zJ (zJ (zE (g.mv rfl λ_ g=>g.purR (λw=>ZQ g Tryz.underlying22 rfl) λ_ g=>g.mv rfl λ_ g=>zM (tn (zW ?_)))))))
   obtain ⟨I_l1,μ_l1,h0,hb⟩:=H
   refine yD (ds:=[]) (N:=57) (σ:=Int) (λs=>[(21,(.int .i64 s)),(0,(Sl.v x0)),(4,(.pointer x14)),(19,(Sl.v x0)),(20,(.int .i64 (x0.len:Int)))]) (λs w=>I_l1 s w) (λs w=>μ_l1 s w) 0 h0 (g.wk) ?_
   intro x21 w a hI g
   try dsimp only at hI g
   obtain ⟨Kl1,hK_l1⟩:∃ K:Int->World->Prop,K=(λx21' w'=>I_l1 x21' w'/\μ_l1 x21' w'<μ_l1 x21 w):=⟨_,rfl⟩
   have H:zFd x0 Ret x14 x21 w Kl1:=by rw [hK_l1];exact hb x21 w hI
   clear hb h0 hI
   unfold zFd at H
   refine zJ (zE (g.pur (yS g rfl rfl) λ_ g=>zM (tn (zJ (zb g rfl (λhc=>?_) (λhc=>?_))))))
   ·replace H:=H.1 hc
    refine zX (tn (zJ (zW (zJ (zE (g.mv rfl λ_ g=>g.op (zH g rfl rfl) H λx24 w a H g=>g.op (zN g rfl) H λx25 w a H g=>g.op (YW) H λx6 w a H g=>g.as_ rfl λ_ g=>g.opu (zT g rfl rfl) H λw a H g=>zM (tn (zJ (zJ (QP (by kernel_rfl) (by kernel_rfl) (g.qm rfl λ_ g=>g.qpur (zBC g rfl rfl) λ_ g=>g.qm rfl λ_ g=>WQ.join (ds:=[]) (N:=57) (σ:=Bool) (λs=>[(38,(.bool s)),(0,(Sl.v x0)),(4,(.pointer x14)),(6,(.pointer x6)),(19,(Sl.v x0)),(20,(.int .i64 (x0.len:Int))),(21,(.int .i64 x21))]) (λs=>zEG Ret x14 x21 Kl1 x6 s w) 10 ?_ (λhr2=>?_))))))))))))
    ·intro x38 a H g
     try dsimp only at H g
     unfold zEG at H
     refine QO (λw hB=>?_)
     replace H:=H w hB
     refine (tn (zd g rfl (λhc=>?_) (λhc=>?_)))
     ·replace H:=H.1 hc
      exact zJ (zE (g.as_ rfl λ_ g=>g.as_ rfl λ_ g=>zM (tn (zg (tr (br (tr (tr (br (tr (Zu g rfl rfl rfl ⟨_,_,rfl,H⟩)))))))))))
     ·replace H:=H.2 hc
      refine zX (tn (zNO 16 H 17 (λC3 w hC0 H=>g.kp 0 rfl hC0 (Q7 (zQ g rfl)) λ_ g=>g.kp 1 rfl hC0 (Q7 (zQ g rfl)) λ_ g=>g.kp 2 rfl hC0 (Q7 (zj g rfl H.1)) λ_ g=>?_)))
      replace H:=H.2
      refine g.ko 3 rfl hC0 (zS g rfl) H λx42 a H g=>g.ko 4 rfl hC0 (zS g rfl) H λx43 a H g=>g.ko 6 rfl hC0 (zS g rfl) H λx45 a H g=>g.ko 8 rfl hC0 (zS g rfl) H λx47 a H g=>g.ko 5 rfl hC0 (zN g rfl) H λx44 a H g=>g.ko 7 rfl hC0 (zN g rfl) H λx46 a H g=>g.ko 9 rfl hC0 (zN g rfl) H λx48 a H g=>g.ko 10 rfl hC0 (zAg g rfl) H λx49 a H g=>WK.on 11 rfl ?_
      intro K hK
      refine g.wop (Qz g rfl) H λx50 w a H g=>hK _ _ ⟨H.1,?_⟩
      have hC1:=H.1
      replace H:=H.2
      refine WK.on 12 rfl ?_
      intro K hK
      refine g.wop (zBE g rfl) H λx51 w a H g=>hK _ _ ⟨H.1,?_⟩
      have hC2:=H.1
      replace H:=H.2
      refine g.kp 13 rfl hC2 (Q7 (zj g rfl H.1)) λ_ g=>?_
      replace H:=H.2
      refine g.ko 14 rfl hC2 (zS g rfl) H λx53 a H g=>g.ko 15 rfl hC2 (zS g rfl) H λx54 a H g=>WK.la 16 rfl ?_
      intro K hK
      refine g.wopu (zT g rfl rfl) H λw a H g=>hK _ _ (WK.nil (by kernel_rfl) ((bn (tn (zE (g.pur (zm g rfl rfl) λ_ g=>g.mv rfl λ_ g=>?_))))))
      rw [hK_l1] at H
      exact zM (tn ⟨(zB .i64 (x21+1)),g.wk,H⟩)
    ·rcases Classical.em ((0<x21)) with hbr2|hbr2
     ·replace H:=H.1 hbr2
      replace g:=g.bool (b:=true) (t:=28) rfl (decide_eq_true hbr2)
      exact g.qon (by rfl) (by rfl) (g.qm rfl λ_ g=>g.qon (by rfl) (by rfl) (g.qm rfl λ_ g=>g.qon (by rfl) (by rfl) (g.qpur (zq g rfl rfl) λ_ g=>g.qon (by rfl) (by rfl) (g.qop (zH g rfl rfl) H λx32 a H g=>g.qon (by rfl) (by rfl) (g.qop (zS g rfl) H λx33 a H g=>g.qon (by rfl) (by rfl) (g.qop (zN g rfl) H λx34 a H g=>g.qon (by rfl) (by rfl) (g.qop (zS g rfl) H λx35 a H g=>g.qon (by rfl) (by rfl) (g.qop (zN g rfl) H λx36 a H g=>g.qon (by rfl) (by rfl) (g.qpur (zMv g rfl rfl) λ_ g=>g.qpur (zu g rfl rfl) λ_ g=>hr2 (!sLt x34 x36) _ H (g.wk))))))))))
     ·replace H:=H.2 hbr2
      replace g:=g.bool (b:=false) (t:=28) rfl (decide_eq_false hbr2)
      exact g.qoff (by rfl) (by rfl) (by decide) (λ_ g=>g.qoff (by rfl) (by rfl) (by decide) (λ_ g=>g.qoff (by rfl) (by rfl) (by decide) (λ_ g=>g.qoff (by rfl) (by rfl) (by decide) (λ_ g=>g.qoff (by rfl) (by rfl) (by decide) (λ_ g=>g.qoff (by rfl) (by rfl) (by decide) (λ_ g=>g.qoff (by rfl) (by rfl) (by decide) (λ_ g=>g.qoff (by rfl) (by rfl) (by decide) (λ_ g=>g.qoff (by rfl) (by rfl) (by decide) (λ_ g=>g.qpur (zv g rfl rfl) λ_ g=>hr2 false _ H (g.wk))))))))))
   ·replace H:=H.2 hc
    exact z5 (te (te (be (tn (zJ (zE (g.mv rfl λ_ g=>g.as_ rfl λ_ g=>g.as_ rfl λ_ g=>zM (tn (zg (Zu g rfl rfl rfl ⟨_,_,rfl,H⟩))))))))))
def zDh (Ret:Bool->World->Prop) (x12:Bool) (w:World):Prop:=
 Ret x12 w
def zHj (x0:zL) (w:World) (Ret:Bool->World->Prop):Prop:=
 opE zA zC (Instr.box 66 (zL.v x0)) w (λx1 w=>opE zA zC (zO 66 (.pointer x1) 0) w (λx3 w=>opE zA zY (zD 9 (.pointer x3)) w (λx4 w=>((256<(x4.size:Int))->(zDh Ret true w))/\(¬ (256<(x4.size:Int))->(opE zA zC (zO 66 (.pointer x1) 1) w (λx8 w=>opE zA zY (zD 9 (.pointer x8)) w (λx9 w=>zDh Ret (decide (512<(x9.size:Int))) w)))))))
set_option maxRecDepth 100000 in
theorem zKp (x0:zL) (w:World) (Ret:Bool->World->Prop) (H:zHj x0 w Ret):Cl zA 34 [(zL.v x0)].toArray w (λe w'=>∃ (r0:Bool),e=.returned (.bool r0)/\Ret r0 w'):=by
 unfold zHj at H
 refine zl 13 (zipE 0 [(zL.v x0)]) Tryz.func34 rfl rfl (by rfl) rfl ?_
 intro a g
 replace g:Sat [] 13 [(0,(zL.v x0))] a:=g
 refine zJ (zE (g.op (zBa g rfl) H λx1 w a H g=>g.as_ rfl λ_ g=>zM (tn (zJ (zE (g.op (zS g rfl) H λx3 w a H g=>g.op (zN g rfl) H λx4 w a H g=>g.purR (λw=>zGk g Tryz.underlying9 rfl) λ_ g=>g.pur (zBC g rfl rfl) λ_ g=>g.mv rfl λ_ g=>WL.join (ds:=[]) (N:=13) (σ:=Bool) (λs=>[(12,(.bool s))]) (λs w=>zDh Ret s w) 5 ?_ (λhr1=>?_)))))))
 ·intro x12 w a H g
  try dsimp only at H g
  unfold zDh at H
  exact g.as_ rfl λ_ g=>zM (tn (zg (zt g rfl rfl ⟨_,rfl,H⟩)))
 ·rcases Classical.em ((256<(x4.size:Int))) with hbr1|hbr1
  ·replace H:=H.1 hbr1
   replace g:=g.bool (b:=true) (t:=7) rfl (decide_eq_true hbr1)
   exact g.off (by rfl) (by rfl) (by decide) (λ_ g=>g.off (by rfl) (by rfl) (by decide) (λ_ g=>g.off (by rfl) (by rfl) (by decide) (λ_ g=>g.off (by rfl) (by rfl) (by decide) (λ_ g=>g.pur (zu g rfl rfl) λ_ g=>hr1 true _ _ H (g.wk)))))
  ·replace H:=H.2 hbr1
   replace g:=g.bool (b:=false) (t:=7) rfl (decide_eq_false hbr1)
   exact g.on (by rfl) (by rfl) (g.op (zS g rfl) H λx8 w a H g=>g.on (by rfl) (by rfl) (g.op (zN g rfl) H λx9 w a H g=>g.on (by rfl) (by rfl) (g.purR (λw=>zGk g Tryz.underlying9 rfl) λ_ g=>g.on (by rfl) (by rfl) (g.pur (zBC g rfl rfl) λ_ g=>g.pur (zv g rfl rfl) λ_ g=>hr1 (decide (512<(x9.size:Int))) _ _ H (g.wk)))))
end Go.Proofs.YtealcoghiaeiiaaGreat.VG
set_option linter.unusedVariables false
namespace Go.Proofs.YtealcoghiaeiiaaGreat.VG
open Go.VB Go.Proofs Go.RowKit
def verP (p:Pai):Ver:=⟨p.Key,1,p.Val,false⟩
def newS (l:List Pai):St:=⟨l.map verP,1,1,0,λ_=>none⟩
def zHC (p:Pai):Bool:=decide (256<(p.Key.size:Int))||decide (512<(p.Val.size:Int))
def zF6 (l:List Pai) (n:Nat):Prop:=∀ j x y,j+1<n->l[j]?=some x->l[j+1]?=some y->sLt x.Key y.Key=true
theorem zPU (p:Pai) (w:World) {k:Bool->World->Prop} (H:∀ w',Bel w w'->k (zHC p) w'):Cl zA zIz [zL.v p].toArray w (λe w'=>∃ r0:Bool,e=.returned (.bool r0)/\k r0 w'):=by
 refine zKp p w k ?_
 unfold zHj zDh
 refine zA7 (cs:=p.cells) rfl λB w1 b1 hX _=>?_
 have h:=H w1 b1
 unfold zHC at h
 refine yy Z2 zn hX.at p.Key rfl ⟨λhc=>?_,λhc=>?_⟩
 ·rw [decide_eq_true hc] at h;exact h
 ·rw [decide_eq_false hc] at h
  exact yy zGb zn hX.at p.Val rfl h
abbrev zI2 (sl:Sl) (low:Int) (mb:Nat):List Value:=[Sl.v sl,.int .u64 low,.int .u64 1,.int .i64 0,.map (some mb)]
theorem zPH {w:World} {x:Sl} {l:List Pai} (hd:zHn w x l) {k:Option Addr->Int->World->Prop}
  (H0:4096<l.length->k none 3 w)
  (H1:l.length<=4096->l.any zHC=true->∀ w',Bel w w'->k none 4 w')
  (H2:l.length<=4096->l.any zHC=false->¬ zF6 l l.length->∀ w',Bel w w'->k none 2 w')
  (H3:l.length<=4096->l.any zHC=false->zF6 l l.length->∀ b ρ w',Bel w w'->Mgr ρ w' b (newS l)->(∀ k,k<w.heap.size->ρ k=none)->k (ptrA b) 0 w'):
  Cl zA zJp [Sl.v x].toArray w (λe w'=>∃ (r0:Option Addr) (r1:Int),e=.returned (.tuple [.pointer r0,.int .i64 r1].toArray)/\k r0 r1 w'):=by
 have dbig:=hd.big;have dcap:=hd.cap;have dlen:=hd.len
 refine zMd x w k ?_
 unfold zI3
 refine ⟨λhc=>H0 (by omega),λhc=>?_⟩
 have hl:l.length<=4096:=by omega
 refine zJV hd (p:=zHC) (λd _ w' k' hb hk=>.inl ⟨zIz,[],[],rfl,zQz,zPU d w' hk⟩) λw1 b1=>⟨λhc=>H1 hl hc w1 b1,λhno=>?_⟩
 refine zMf (ek:=zV .i64) (ev:=zC) λhM=>?_
 have hB2:=Bel.alloc w1 (.map #[] 0)
 have s2:=size_alloc' w1 (.map #[] 0)
 generalize hmb:w1.heap.size=mb at hM s2 ⊢
 generalize w1.alloc (.map #[] 0)=w2 at hM hB2 s2 ⊢
 refine ⟨⟨⟨Sl.none,0⟩,1,0,some mb⟩,w2,by kernel_rfl,?_⟩
 refine zA7 (cs:=zI2 Sl.none 0 mb) rfl λB w3 b3 hR hB0=>⟨trivial,?_⟩
 have hmb2:mb<w2.heap.size:=by omega
 refine ⟨_,w3,xS _ _,?_⟩
 refine ⟨_,w3,zAd _ _,?_⟩
 rw [zFs]
 refine zHU (off:=0+1) yK hR rfl (by simp) rfl λw4 hR4 g4=>?_
 replace hR4:Row w4 B (zI2 Sl.none 1 mb) Zq:=hR4
 have s3:=b3.le
 have s4:=g4.size
 have hBm:B≠mb:=by omega
 have hM4:=(hM.bel b3).grown g4 (by simpa using hBm)
 have b12:=b1.trans hB2
 have s12:=b12.le
 have b04:Bel w w4:=(b12.trans b3).grown g4 λr hr=>by cases hr;omega
 have hBl:B<w4.heap.size:=hR4.lt
 refine ⟨λi W=>∃ (n:Nat) (sl:Sl),i=(n:Int)/\n<=l.length/\Row W B (zI2 sl 1 mb) Zq/\Zg w4.heap.size W sl ((l.take n).map verP)/\Zr (zV .i64) zC W mb (λ_=>none)/\Bel w W/\w4.heap.size<=W.heap.size/\zF6 l n,λi _=>(x.len - i).toNat,
  ⟨0,Sl.none,rfl,by omega,hR4,OwnS.nil _ _ _ _ _,hM4,b04,zU _,λj _ _ h=>by omega⟩,?_⟩
 rintro i W ⟨n,sl,rfl,hn,hRW,hOW,hMW,hbW,hsW,hrise⟩
 unfold zFd
 refine ⟨λhc=>?_,λhc=>?_⟩
 ·obtain ⟨p,hp⟩:=getE (l:=l) (n:=n) (by omega)
  refine zDR (hd.bel hbW) Yq zAK (by omega) (x:=p) (by simpa using hp) λad hA=>?_
  refine zBI ZI p rfl hA rfl ?_
  refine zCT zG4 rfl ZI (cs:=p.cells) rfl rfl rfl λX W1 b5 hX hX0=>?_
  have J:∀ (c:Bool),(c=true->¬ zF6 l l.length)->(c=false->zF6 l (n+1))->zEG k (ptrA B) (n:Int) (λx21' w'=>(∃ (n:Nat) (sl:Sl),x21'=(n:Int)/\n<=l.length/\Row w' B (zI2 sl 1 mb) Zq/\Zg w4.heap.size w' sl ((l.take n).map verP)/\Zr (zV .i64) zC w' mb (λ_=>none)/\Bel w w'/\w4.heap.size<=w'.heap.size/\zF6 l n)/\(x.len - x21').toNat<(x.len - (n:Int)).toNat) (ptrA X) c W1:=by
   intro c hc1 hc0
   unfold zEG
   intro W2 b6
   refine ⟨λh1=>H2 hl hno (hc1 h1) W2 ((hbW.trans b5).trans b6),λh1=>?_⟩
   have hR2:=(hRW.bel b5).bel b6
   have hX2:=hX.bel b6
   have b56:=b5.trans b6
   refine ⟨λW'=>Row W' B (zI2 sl 1 mb) Zq/\Row W' X p.cells ZU,λW3 b7=>⟨⟨hR2.bel b7,hX2.bel b7⟩,trivial,?_⟩⟩
   refine zFX xS ?_
   refine zFX yB ?_
   refine zFX Z2 ?_
   refine zFX zGb ?_
   refine zCy yA sl (λW hW=>by rw [zFs];exact hW.1.at.fld rfl) ?_
   refine zCy zn p.Key (λW hW=>hW.2.at.fld rfl) ?_
   refine zCy zn p.Val (λW hW=>hW.2.at.fld rfl) ?_
   refine ⟨verP p,λW hW=>by kernel_rfl,?_⟩
   refine ⟨_,_,zGK (verP p) W3,?_⟩
   have b8:=Bel.alloc W3 (.cells (verP p).cells.toArray yE)
   have hlit:zEd (W3.alloc (.cells (verP p).cells.toArray yE)) ⟨some ⟨W3.heap.size,0,none⟩,1,1⟩ [verP p]:=by
    have:=Rd.lit (c:=zG.cells) (n:=4) (λ_=>rfl) [verP p] (by simp) W3 yE
    simpa using this
   have s8:=size_alloc' W3 (.cells (verP p).cells.toArray yE)
   generalize W3.alloc (.cells (verP p).cells.toArray yE)=W4 at b8 hlit s8 ⊢
   have b58:=(b56.trans b7).trans b8
   have hR8:=(hR2.bel b7).bel b8
   have hX8:=(hX2.bel b7).bel b8
   refine ⟨⟨hR8,hX8⟩,?_⟩
   have hO8:=hOW.bel b58
   have hs8:=b58.le
   refine zNF (w0:=w) hO8 hlit (hbW.trans b58) b04.le (by omega) (by simp;omega) λsl' W5 hO9 b9 g9=>?_
   have hne:(Sl.v sl).ownBlock≠some B:=λe=>by have:=hO8.lo e;omega
   have hneX:(Sl.v sl).ownBlock≠some X:=λe=>by have:=hOW.lt e;omega
   have hnem:(Sl.v sl).ownBlock≠some mb:=λe=>by have:=hO8.lo e;omega
   have hR9:=hR8.grown g9 hne
   refine ⟨⟨hR9,hX8.grown g9 hneX⟩,trivial,?_⟩
   refine zFX xS ?_
   refine zFX yB ?_
   rw [zFs]
   refine zHU (off:=0+0) yA hR9 (by cases sl' with|mk a l c=>cases a<;>rfl) (by simp) (by cases sl' with|mk a l c=>cases a<;>rfl) λW6 hR10 g10=>?_
   replace hR10:Row W6 B (zI2 sl' 1 mb) Zq:=hR10
   rw [wr64 (by omega) (by omega)]
   have hlast:(l.take (n+1)).map verP=(l.take n).map verP++[verP p]:=by rw [zB9 hp,List.map_append];rfl
   refine ⟨⟨n+1,sl',by omega,by omega,hR10,?_,((hMW.bel b58).grown g9 hnem).grown g10 (by simpa using hBm),b9.grown g10 λr hr=>by cases hr;omega,by have:=g9.size;have:=g10.size;omega,hc0 h1⟩,by omega⟩
   rw [hlast]
   refine hO9.kept g10 (.inr λe=>?_)
   have:=hO9.lo e;omega
  refine ⟨λh0=>?_,λh0=>?_⟩
  ·obtain ⟨q,hq⟩:=getE (l:=l) (n:=n - 1) (by omega)
   have hdW:=(hd.bel hbW).bel b5
   rw [wr64 (by omega) (by omega)]
   refine zHP hdW Yq zAK (by omega) (x:=q) (by rw [show ((n:Int) - 1).toNat=n - 1 from by omega];exact hq) λad hA=>?_
   refine zF7 Z2 zn hA q.Key rfl ?_
   refine zF7 Z2 zn hX.at p.Key rfl ?_
   refine J _ (λh1 h2=>?_) λh1=>?_
   ·have:=h2 (n - 1) q p (by omega) hq (by rw [show n - 1+1=n from by omega];exact hp)
    rw [this] at h1;cases h1
   ·intro j y z hj hy hz
    by_cases hjn:j+1<n
    ·exact hrise j y z hjn hy hz
    ·obtain rfl:j=n - 1:=by omega
     rw [hq] at hy;cases hy
     rw [show n - 1+1=n from by omega,hp] at hz;cases hz
     simpa using h1
  ·refine J false (λh=>(nomatch h)) λ_ j y z hj hy hz=>by omega
 ·obtain rfl:n=l.length:=by omega
  rw [List.take_length] at hOW
  have hold:∀ q,q<w.heap.size->q≠B/\q≠mb/\(Sl.v sl).ownBlock≠some q:=λq hq=>by
   have:=b1.le
   have:=b04.le
   exact ⟨by omega,by omega,λe=>by have:=hOW.lo e;omega⟩
  refine H3 hl hno hrise B (λq=>if q=B then some .mg else if q=mb then some .om else if (Sl.v sl).ownBlock=some q then some .ve else none) W hbW ⟨sl,mb,λ_=>⟨0,0,Sl.none⟩,?_⟩ λq hq=>?_
  ·exact {
    row:=hRW
    rmg:=if_pos rfl
    vers:=Zg.rd hOW
    rve:=λq hq=>by
     have:=hOW.lo hq
     rw [if_neg (by omega),if_neg (by omega),if_pos hq]
    mp:=hMW
    rom:=by rw [if_neg hBm.symm,if_pos rfl]
    tx:=λn t ht=>by cases ht
    lt:=λq hq=>by
     split at hq
     ·rename_i e;subst e;exact hRW.lt
     ·split at hq
      ·rename_i e;subst e;exact hMW.lt
      ·split at hq
       ·rename_i e;exact hOW.lt e
       ·exact absurd rfl hq}
  ·obtain ⟨h1,h2,h3⟩:=hold q hq
   rw [if_neg h1,if_neg h2,if_neg h3]
end Go.Proofs.YtealcoghiaeiiaaGreat.VG
set_option linter.unusedVariables false
namespace Go.Proofs.YtealcoghiaeiiaaGreat.VG
open Go.VB Go.Proofs Go.RowKit
theorem zQW {w:World} {x y:Wri} {o1 o2:Operand} {k:Bool->Prop} (H:∀ b:Bool,(b=true↔¬ x=y)->k b):
  opB zA Qq (do eqGuard .neq Za o1 o2 (zI.v x) (zI.v y);binOp .neq Za (zI.v x) (zI.v y)) w k:=by
 obtain ⟨r,h1,h2⟩:=zKB x y o1 o2
 exact ⟨r,λw' _=>h1 w',H r h2⟩
theorem zN5 {w:World} {x0 x1:Sl} {l m:List Wri} (h:zHs w x0 l) (h':zHs w x1 m) {k:Bool->World->Prop} (H:∀ r w',(r=true↔l=m)->Bel w w'->k r w'):
  Cl zA zGE [Sl.v x0,Sl.v x1].toArray w (λe w'=>∃ r0:Bool,e=.returned (.bool r0)/\k r0 w'):=by
 refine zGF x0 x1 w k ?_
 have hbig:=h.big;have hcap:=h.cap;have hlen:=h.len;have hlen':=h'.len
 unfold zCI
 refine ⟨λhc=>H false w ⟨λh=>(nomatch h),λh=>?_⟩ (Bel.refl _),λhc=>?_⟩
 ·subst h;omega
 have hc':(x0.len:Int)=x1.len:=Classical.not_not.1 hc
 refine ⟨λx w1=>∃ n:Nat,x=(n:Int)/\n<=l.length/\Bel w w1/\l.take n=m.take n,λx _=>(x0.len - x).toNat,⟨0,rfl,by omega,Bel.refl _,rfl⟩,?_⟩
 rintro x w1 ⟨n,rfl,hn,hb,hq⟩
 unfold zAQ
 refine ⟨λhc=>?_,λhc=>?_⟩
 ·obtain ⟨e,he⟩:∃ e,l[n]?=some e:=⟨l[n]'(by omega),by simp⟩
  obtain ⟨f,hf⟩:∃ f,m[n]?=some f:=⟨m[n]'(by omega),by simp⟩
  refine zHP (h.bel hb) zAR zBX (by omega) (x:=e) (by simpa using he) λad hA=>?_
  refine zHT y6 e rfl hA rfl ?_
  refine zHP (h'.bel hb) zAR zBX (by omega) (x:=f) (by simpa using hf) λad' hA'=>?_
  refine zHT y6 f rfl hA' rfl ?_
  refine zQW λb hbb=>?_
  intro w2 hb2
  refine ⟨λht=>H false w2 ⟨λh=>(nomatch h),λh=>?_⟩ (hb.trans hb2),λhf0=>?_⟩
  ·subst h;rw [he] at hf;exact absurd (Option.some.inj hf) (hbb.1 ht)
  ·have hef:e=f:=Classical.not_not.1 λh=>by rw [hbb.2 h] at hf0;cases hf0
   subst hef
   rw [wr64 (by omega) (by omega)]
   exact ⟨⟨n+1,by omega,by omega,hb.trans hb2,zIk hq he hf⟩,by dsimp only;omega⟩
 ·obtain rfl:n=l.length:=by omega
  refine H true w1 ⟨λ_=>?_,λ_=>rfl⟩ hb
  rw [List.take_length,List.take_of_length_le (by omega)] at hq
  exact hq
structure Ans where
 why:Int
 tx:Int
 val:ByteArray
 is:Bool
 pairs:List Pai
 done:List Wri
 time:Int
def zJI (w:World) (x:Zm) (a:Ans):Prop:=x.Why=a.why/\x.Tx=a.tx/\x.Val=a.val/\x.Is=a.is/\zHn w x.Pairs a.pairs/\zHs w x.Done a.done/\x.Time=a.time
theorem zJI.bel {w w':World} {x:Zm} {a:Ans} (h:zJI w x a) (hb:Bel w w'):zJI w' x a:=⟨h.1,h.2.1,h.2.2.1,h.2.2.2.1,h.2.2.2.2.1.bel hb,h.2.2.2.2.2.1.bel hb,h.2.2.2.2.2.2⟩
end Go.Proofs.YtealcoghiaeiiaaGreat.VG
set_option linter.unusedVariables false
set_option linter.unusedSimpArgs false
namespace Go.Proofs.YtealcoghiaeiiaaGreat.VG
open Go.VB Go.Proofs
def zAZ (Ret:Bool->World->Prop) (x117:Bool) (w:World):Prop:=
 Ret x117 w
def zAb (Ret:Bool->World->Prop) (r:Option Addr) (x112:Bool) (w:World):Prop:=
 (x112=true->(Cl zA 31 [(.pointer r)].toArray w (λe w=>∃ (r_20:Int),e=.returned (.int .u64 r_20)/\(zAZ Ret (decide (r_20=2)) w))))/\(x112=false->(zAZ Ret false w))
def zAe (Ret:Bool->World->Prop) (r:Option Addr) (r_19:Int) (x108:Bool) (w:World):Prop:=
 (x108=true->(zAb Ret r (decide (r_19=10)) w))/\(x108=false->(zAb Ret r false w))
def zA0 (Ret:Bool->World->Prop) (r:Option Addr) (r_16:Int) (r_19:Int) (x104:Bool) (w:World):Prop:=
 (x104=true->(zAe Ret r r_19 (decide (r_16=0)) w))/\(x104=false->(zAe Ret r r_19 false w))
def zAr (Ret:Bool->World->Prop) (r:Option Addr) (r_15:Int) (r_16:Int) (r_19:Int) (x100:Bool) (w:World):Prop:=
 (x100=true->(zA0 Ret r r_16 r_19 (decide (r_15=2)) w))/\(x100=false->(zA0 Ret r r_16 r_19 false w))
def zAq (Ret:Bool->World->Prop) (r:Option Addr) (r_14:Sl) (r_15:Int) (r_16:Int) (r_19:Int) (x94:Bool) (w:World):Prop:=
 (x94=true->(opE zA zI.v (QC 34 [(0,(.string (ByteArray.mk #[97]))),(1,(.string (ByteArray.mk #[50])))].toArray) w (λx97 w=>opE zA Sl.v (zc 30 1 [(0,(zI.v x97))].toArray) w (λx98 w=>Cl zA 28 [(Sl.v r_14),(Sl.v x98)].toArray w (λe w=>∃ (r_21:Bool),e=.returned (.bool r_21)/\(zAr Ret r r_15 r_16 r_19 r_21 w))))))/\(x94=false->(zAr Ret r r_15 r_16 r_19 false w))
def zAv (Ret:Bool->World->Prop) (r:Option Addr) (r_13:Int) (r_14:Sl) (r_15:Int) (r_16:Int) (r_19:Int) (x90:Bool) (w:World):Prop:=
 (x90=true->(zAq Ret r r_14 r_15 r_16 r_19 (decide (r_13=0)) w))/\(x90=false->(zAq Ret r r_14 r_15 r_16 r_19 false w))
def zAs (Ret:Bool->World->Prop) (r:Option Addr) (r_12:Int) (r_13:Int) (r_14:Sl) (r_15:Int) (r_16:Int) (r_19:Int) (x86:Bool) (w:World):Prop:=
 (x86=true->(zAv Ret r r_13 r_14 r_15 r_16 r_19 (decide (r_12=0)) w))/\(x86=false->(zAv Ret r r_13 r_14 r_15 r_16 r_19 false w))
def zAx (Ret:Bool->World->Prop) (r:Option Addr) (r_8:Int) (r_12:Int) (r_13:Int) (r_14:Sl) (r_15:Int) (r_16:Int) (r_19:Int) (x82:Bool) (w:World):Prop:=
 (x82=true->(zAs Ret r r_12 r_13 r_14 r_15 r_16 r_19 (decide (r_8=0)) w))/\(x82=false->(zAs Ret r r_12 r_13 r_14 r_15 r_16 r_19 false w))
def zAt (Ret:Bool->World->Prop) (r:Option Addr) (r_7:Bool) (r_8:Int) (r_12:Int) (r_13:Int) (r_14:Sl) (r_15:Int) (r_16:Int) (r_19:Int) (x79:Bool) (w:World):Prop:=
 (x79=true->(zAx Ret r r_8 r_12 r_13 r_14 r_15 r_16 r_19 r_7 w))/\(x79=false->(zAx Ret r r_8 r_12 r_13 r_14 r_15 r_16 r_19 false w))
def zA2 (Ret:Bool->World->Prop) (r:Option Addr) (r_6:ByteArray) (r_7:Bool) (r_8:Int) (r_12:Int) (r_13:Int) (r_14:Sl) (r_15:Int) (r_16:Int) (r_19:Int) (x75:Bool) (w:World):Prop:=
 (x75=true->(zAt Ret r r_7 r_8 r_12 r_13 r_14 r_15 r_16 r_19 (decide (r_6=(ByteArray.mk #[49]))) w))/\(x75=false->(zAt Ret r r_7 r_8 r_12 r_13 r_14 r_15 r_16 r_19 false w))
def zA1 (Ret:Bool->World->Prop) (r:Option Addr) (r_4:Int) (r_6:ByteArray) (r_7:Bool) (r_8:Int) (r_12:Int) (r_13:Int) (r_14:Sl) (r_15:Int) (r_16:Int) (r_19:Int) (x71:Bool) (w:World):Prop:=
 (x71=true->(zA2 Ret r r_6 r_7 r_8 r_12 r_13 r_14 r_15 r_16 r_19 (decide (r_4=2)) w))/\(x71=false->(zA2 Ret r r_6 r_7 r_8 r_12 r_13 r_14 r_15 r_16 r_19 false w))
def zEQ (w:World) (Ret:Bool->World->Prop):Prop:=
 opE zA zL.v (QC 66 [(0,(.string (ByteArray.mk #[97]))),(1,(.string (ByteArray.mk #[49])))].toArray) w (λx19 w=>opE zA Sl.v (zc 22 1 [(0,(zL.v x19))].toArray) w (λx20 w=>Cl zA 11 [(Sl.v x20)].toArray w (λe w=>∃ (r:Option Addr) (r_1:Int),e=.returned (.tuple [(.pointer r),(.int .i64 r_1)].toArray)/\(opE zA Qq (do eqGuard .eql 26 (.tmp 24) (.const (.pointer none)) (.pointer r) (.pointer none);binOp .eql 26 (.pointer r) (.pointer none)) w (λx25 w=>(x25=true->(Ret false w))/\(x25=false->(Cl zA 12 [(.pointer r)].toArray w (λe w=>∃ (r_2:Int) (r_3:Int),e=.returned (.tuple [(.int .i64 r_2),(.int .i64 r_3)].toArray)/\(Cl zA 12 [(.pointer r)].toArray w (λe w=>∃ (r_4:Int) (r_5:Int),e=.returned (.tuple [(.int .i64 r_4),(.int .i64 r_5)].toArray)/\(Cl zA 22 [(.pointer r),(.int .i64 r_2),(.string (ByteArray.mk #[97]))].toArray w (λe w=>∃ (r_6:ByteArray) (r_7:Bool) (r_8:Int),e=.returned (.tuple [(.string r_6),(.bool r_7),(.int .i64 r_8)].toArray)/\(Cl zA 22 [(.pointer r),(.int .i64 r_4),(.string (ByteArray.mk #[97]))].toArray w (λe w=>∃ (r_9:ByteArray) (r_10:Bool) (r_11:Int),e=.returned (.tuple [(.string r_9),(.bool r_10),(.int .i64 r_11)].toArray)/\(Cl zA 14 [(.pointer r),(.int .i64 r_2),(.string (ByteArray.mk #[97])),(.string (ByteArray.mk #[50]))].toArray w (λe w=>∃ (r_12:Int),e=.returned (.int .i64 r_12)/\(Cl zA 14 [(.pointer r),(.int .i64 r_4),(.string (ByteArray.mk #[97])),(.string (ByteArray.mk #[51]))].toArray w (λe w=>∃ (r_13:Int),e=.returned (.int .i64 r_13)/\(Cl zA 15 [(.pointer r),(.int .i64 r_2)].toArray w (λe w=>∃ (r_14:Sl) (r_15:Int) (r_16:Int),e=.returned (.tuple [(Sl.v r_14),(.int .u64 r_15),(.int .i64 r_16)].toArray)/\(Cl zA 15 [(.pointer r),(.int .i64 r_4)].toArray w (λe w=>∃ (r_17:Sl) (r_18:Int) (r_19:Int),e=.returned (.tuple [(Sl.v r_17),(.int .u64 r_18),(.int .i64 r_19)].toArray)/\(((r_1=0)->(zA1 Ret r r_4 r_6 r_7 r_8 r_12 r_13 r_14 r_15 r_16 r_19 (decide (r_2=1)) w))/\(¬ (r_1=0)->(zA1 Ret r r_4 r_6 r_7 r_8 r_12 r_13 r_14 r_15 r_16 r_19 false w)))))))))))))))))))))))))
set_option maxRecDepth 100000 in
theorem zHf (w:World) (Ret:Bool->World->Prop) (H:zEQ w Ret):Cl zA 10 [].toArray w (λe w'=>∃ (r0:Bool),e=.returned (.bool r0)/\Ret r0 w'):=by
 unfold zEQ at H
 refine zl 118 (zipE 0 []) Tryz.func10 rfl rfl (by rfl) rfl ?_
 intro a g
 replace g:Sat [] 118 [] a:=g
 refine zJ (zE (g.as_ rfl λ_ g=>zM (tn (zJ (zE (g.op (zAg g rfl) H λx19 w a H g=>g.op (Qz g rfl) H λx20 w a H g=>g.call (zZ g zPw rfl rfl) H λe w H=>?_))))))
 obtain ⟨r,r_1,rfl,H⟩:=H
 refine ⟨_,rfl,λ_ g=>(g.mv rfl λ_ g=>g.pur (za g rfl rfl) λ_ g=>g.pur (za g rfl rfl) λ_ g=>g.as_ rfl λ_ g=>g.as_ rfl λ_ g=>zM (tn (zJ (zJ (zE (g.mv rfl λ_ g=>g.op (zCs g rfl rfl) H λx25 w a H g=>zM (tn (zd g rfl (λhc=>?_) (λhc=>?_)))))))))⟩
 ·replace H:=H.1 hc
  exact zJ (zE (g.as_ rfl λ_ g=>zM (tn (zg (tr (zt g rfl rfl ⟨_,rfl,H⟩))))))
 ·replace H:=H.2 hc
  refine zX (tn (zJ (zE (g.mv rfl λ_ g=>g.call (zZ g zMs rfl rfl) H λe w H=>?_))))
  obtain ⟨r_2,r_3,rfl,H⟩:=H
  refine ⟨_,rfl,λ_ g=>(g.mv rfl λ_ g=>g.pur (za g rfl rfl) λ_ g=>g.pur (za g rfl rfl) λ_ g=>g.as_ rfl λ_ g=>g.as_ rfl λ_ g=>zM (tn (zJ (zE (g.mv rfl λ_ g=>g.call (zZ g zMs rfl rfl) H λe w H=>?_)))))⟩
  obtain ⟨r_4,r_5,rfl,H⟩:=H
  refine ⟨_,rfl,λ_ g=>(g.mv rfl λ_ g=>g.pur (za g rfl rfl) λ_ g=>g.pur (za g rfl rfl) λ_ g=>g.as_ rfl λ_ g=>g.as_ rfl λ_ g=>zM (tn (zJ (zE (g.mv rfl λ_ g=>g.mv rfl λ_ g=>g.call (zZ g zQB rfl rfl) H λe w H=>?_)))))⟩
  obtain ⟨r_6,r_7,r_8,rfl,H⟩:=H
  refine ⟨_,rfl,λ_ g=>(g.mv rfl λ_ g=>g.pur (za g rfl rfl) λ_ g=>g.pur (za g rfl rfl) λ_ g=>g.pur (za g rfl rfl) λ_ g=>g.as_ rfl λ_ g=>g.as_ rfl λ_ g=>g.as_ rfl λ_ g=>zM (tn (zJ (zE (g.mv rfl λ_ g=>g.mv rfl λ_ g=>g.call (zZ g zQB rfl rfl) H λe w H=>?_)))))⟩
  obtain ⟨r_9,r_10,r_11,rfl,H⟩:=H
  refine ⟨_,rfl,λ_ g=>(zM (tn (zJ (zE (g.mv rfl λ_ g=>g.mv rfl λ_ g=>g.call (zZ g zOx rfl rfl) H λe w H=>?_)))))⟩
  obtain ⟨r_12,rfl,H⟩:=H
  refine ⟨_,rfl,λ_ g=>(g.mv rfl λ_ g=>g.mv rfl λ_ g=>g.call (zZ g zOx rfl rfl) H λe w H=>?_)⟩
  obtain ⟨r_13,rfl,H⟩:=H
  refine ⟨_,rfl,λ_ g=>(g.as_ rfl λ_ g=>g.as_ rfl λ_ g=>zM (tn (zJ (zE (g.mv rfl λ_ g=>g.mv rfl λ_ g=>g.call (zZ g zOr rfl rfl) H λe w H=>?_)))))⟩
  obtain ⟨r_14,r_15,r_16,rfl,H⟩:=H
  refine ⟨_,rfl,λ_ g=>(g.mv rfl λ_ g=>g.pur (za g rfl rfl) λ_ g=>g.pur (za g rfl rfl) λ_ g=>g.pur (za g rfl rfl) λ_ g=>g.as_ rfl λ_ g=>g.as_ rfl λ_ g=>g.as_ rfl λ_ g=>zM (tn (zJ (zE (g.mv rfl λ_ g=>g.mv rfl λ_ g=>g.call (zZ g zOr rfl rfl) H λe w H=>?_)))))⟩
  obtain ⟨r_17,r_18,r_19,rfl,H⟩:=H
  refine ⟨_,rfl,λ_ g=>(g.mv rfl λ_ g=>g.pur (za g rfl rfl) λ_ g=>g.pur (za g rfl rfl) λ_ g=>g.pur (za g rfl rfl) λ_ g=>g.as_ rfl λ_ g=>g.as_ rfl λ_ g=>g.as_ rfl λ_ g=>zM (tn (zJ (zE (g.mv rfl λ_ g=>g.pur (zBF g rfl rfl) λ_ g=>g.mv rfl λ_ g=>WL.join (ds:=[]) (N:=118) (σ:=Bool) (λs=>[(71,(.bool s)),(1,(.pointer r)),(5,(.int .i64 r_4)),(7,(.string r_6)),(8,(.bool r_7)),(9,(.int .i64 r_8)),(10,(.int .i64 r_12)),(11,(.int .i64 r_13)),(12,(Sl.v r_14)),(13,(.int .u64 r_15)),(14,(.int .i64 r_16)),(17,(.int .i64 r_19))]) (λs w=>zA1 Ret r r_4 r_6 r_7 r_8 r_12 r_13 r_14 r_15 r_16 r_19 s w) 3 ?_ (λhr1=>?_))))))⟩
  ·intro x71 w a H g
   try dsimp only at H g
   unfold zA1 at H
   refine g.mv rfl λ_ g=>WL.join (ds:=[]) (N:=118) (σ:=Bool) (λs=>[(75,(.bool s)),(1,(.pointer r)),(7,(.string r_6)),(8,(.bool r_7)),(9,(.int .i64 r_8)),(10,(.int .i64 r_12)),(11,(.int .i64 r_13)),(12,(Sl.v r_14)),(13,(.int .u64 r_15)),(14,(.int .i64 r_16)),(17,(.int .i64 r_19))]) (λs w=>zA2 Ret r r_6 r_7 r_8 r_12 r_13 r_14 r_15 r_16 r_19 s w) 3 ?_ (λhr2=>?_)
   ·intro x75 w a H g
    try dsimp only at H g
    unfold zA2 at H
    refine g.mv rfl λ_ g=>WL.join (ds:=[]) (N:=118) (σ:=Bool) (λs=>[(79,(.bool s)),(1,(.pointer r)),(8,(.bool r_7)),(9,(.int .i64 r_8)),(10,(.int .i64 r_12)),(11,(.int .i64 r_13)),(12,(Sl.v r_14)),(13,(.int .u64 r_15)),(14,(.int .i64 r_16)),(17,(.int .i64 r_19))]) (λs w=>zAt Ret r r_7 r_8 r_12 r_13 r_14 r_15 r_16 r_19 s w) 3 ?_ (λhr3=>?_)
    ·intro x79 w a H g
     try dsimp only at H g
     unfold zAt at H
     refine g.mv rfl λ_ g=>WL.join (ds:=[]) (N:=118) (σ:=Bool) (λs=>[(82,(.bool s)),(1,(.pointer r)),(9,(.int .i64 r_8)),(10,(.int .i64 r_12)),(11,(.int .i64 r_13)),(12,(Sl.v r_14)),(13,(.int .u64 r_15)),(14,(.int .i64 r_16)),(17,(.int .i64 r_19))]) (λs w=>zAx Ret r r_8 r_12 r_13 r_14 r_15 r_16 r_19 s w) 2 ?_ (λhr4=>?_)
     ·intro x82 w a H g
      try dsimp only at H g
      unfold zAx at H
      refine g.mv rfl λ_ g=>WL.join (ds:=[]) (N:=118) (σ:=Bool) (λs=>[(86,(.bool s)),(1,(.pointer r)),(10,(.int .i64 r_12)),(11,(.int .i64 r_13)),(12,(Sl.v r_14)),(13,(.int .u64 r_15)),(14,(.int .i64 r_16)),(17,(.int .i64 r_19))]) (λs w=>zAs Ret r r_12 r_13 r_14 r_15 r_16 r_19 s w) 3 ?_ (λhr5=>?_)
      ·intro x86 w a H g
       try dsimp only at H g
       unfold zAs at H
       refine g.mv rfl λ_ g=>WL.join (ds:=[]) (N:=118) (σ:=Bool) (λs=>[(90,(.bool s)),(1,(.pointer r)),(11,(.int .i64 r_13)),(12,(Sl.v r_14)),(13,(.int .u64 r_15)),(14,(.int .i64 r_16)),(17,(.int .i64 r_19))]) (λs w=>zAv Ret r r_13 r_14 r_15 r_16 r_19 s w) 3 ?_ (λhr6=>?_)
       ·intro x90 w a H g
        try dsimp only at H g
        unfold zAv at H
        refine g.mv rfl λ_ g=>WL.join (ds:=[]) (N:=118) (σ:=Bool) (λs=>[(94,(.bool s)),(1,(.pointer r)),(12,(Sl.v r_14)),(13,(.int .u64 r_15)),(14,(.int .i64 r_16)),(17,(.int .i64 r_19))]) (λs w=>zAq Ret r r_14 r_15 r_16 r_19 s w) 3 ?_ (λhr7=>?_)
        ·intro x94 w a H g
         try dsimp only at H g
         unfold zAq at H
         refine g.mv rfl λ_ g=>WL.join (ds:=[]) (N:=118) (σ:=Bool) (λs=>[(100,(.bool s)),(1,(.pointer r)),(13,(.int .u64 r_15)),(14,(.int .i64 r_16)),(17,(.int .i64 r_19))]) (λs w=>zAr Ret r r_15 r_16 r_19 s w) 5 ?_ (λhr8=>?_)
         ·intro x100 w a H g
          try dsimp only at H g
          unfold zAr at H
          refine g.mv rfl λ_ g=>WL.join (ds:=[]) (N:=118) (σ:=Bool) (λs=>[(104,(.bool s)),(1,(.pointer r)),(14,(.int .i64 r_16)),(17,(.int .i64 r_19))]) (λs w=>zA0 Ret r r_16 r_19 s w) 3 ?_ (λhr9=>?_)
          ·intro x104 w a H g
           try dsimp only at H g
           unfold zA0 at H
           refine g.mv rfl λ_ g=>WL.join (ds:=[]) (N:=118) (σ:=Bool) (λs=>[(108,(.bool s)),(1,(.pointer r)),(17,(.int .i64 r_19))]) (λs w=>zAe Ret r r_19 s w) 3 ?_ (λhr10=>?_)
           ·intro x108 w a H g
            try dsimp only at H g
            unfold zAe at H
            refine g.mv rfl λ_ g=>WL.join (ds:=[]) (N:=118) (σ:=Bool) (λs=>[(112,(.bool s)),(1,(.pointer r))]) (λs w=>zAb Ret r s w) 3 ?_ (λhr11=>?_)
            ·intro x112 w a H g
             try dsimp only at H g
             unfold zAb at H
             refine g.mv rfl λ_ g=>WL.join (ds:=[]) (N:=118) (σ:=Bool) (λs=>[(117,(.bool s))]) (λs w=>zAZ Ret s w) 4 ?_ (λhr12=>?_)
             ·intro x117 w a H g
              try dsimp only at H g
              unfold zAZ at H
              exact g.as_ rfl λ_ g=>zM (tn (zg (zt g rfl rfl ⟨_,rfl,H⟩)))
             ·rcases Bool.eq_false_or_eq_true (x112) with hbr12|hbr12
              ·replace H:=H.1 hbr12
               replace g:=g.bool (b:=true) (t:=113) rfl (hbr12)
               refine g.on (by rfl) (by rfl) (g.mv rfl λ_ g=>g.on (by rfl) (by rfl) (g.call (zZ g zRQ rfl rfl) H λe w H=>?_))
               obtain ⟨r_20,rfl,H⟩:=H
               exact ⟨_,rfl,λ_ g=>(g.on (by rfl) (by rfl) (g.pur (zBF g rfl rfl) λ_ g=>g.pur (zu g rfl rfl) λ_ g=>hr12 (decide (r_20=2)) _ _ H (g.wk)))⟩
              ·replace H:=H.2 hbr12
               replace g:=g.bool (b:=false) (t:=113) rfl (hbr12)
               exact g.off (by rfl) (by rfl) (by decide) (λ_ g=>g.off (by rfl) (by rfl) (by decide) (λ_ g=>g.off (by rfl) (by rfl) (by decide) (λ_ g=>g.pur (zv g rfl rfl) λ_ g=>hr12 false _ _ H (g.wk))))
            ·rcases Bool.eq_false_or_eq_true (x108) with hbr11|hbr11
             ·replace H:=H.1 hbr11
              replace g:=g.bool (b:=true) (t:=109) rfl (hbr11)
              exact g.on (by rfl) (by rfl) (g.mv rfl λ_ g=>g.on (by rfl) (by rfl) (g.pur (zBF g rfl rfl) λ_ g=>g.pur (zu g rfl rfl) λ_ g=>hr11 (decide (r_19=10)) _ _ H (g.wk)))
             ·replace H:=H.2 hbr11
              replace g:=g.bool (b:=false) (t:=109) rfl (hbr11)
              exact g.off (by rfl) (by rfl) (by decide) (λ_ g=>g.off (by rfl) (by rfl) (by decide) (λ_ g=>g.pur (zv g rfl rfl) λ_ g=>hr11 false _ _ H (g.wk)))
           ·rcases Bool.eq_false_or_eq_true (x104) with hbr10|hbr10
            ·replace H:=H.1 hbr10
             replace g:=g.bool (b:=true) (t:=105) rfl (hbr10)
             exact g.on (by rfl) (by rfl) (g.mv rfl λ_ g=>g.on (by rfl) (by rfl) (g.pur (zBF g rfl rfl) λ_ g=>g.pur (zu g rfl rfl) λ_ g=>hr10 (decide (r_16=0)) _ _ H (g.wk)))
            ·replace H:=H.2 hbr10
             replace g:=g.bool (b:=false) (t:=105) rfl (hbr10)
             exact g.off (by rfl) (by rfl) (by decide) (λ_ g=>g.off (by rfl) (by rfl) (by decide) (λ_ g=>g.pur (zv g rfl rfl) λ_ g=>hr10 false _ _ H (g.wk)))
          ·rcases Bool.eq_false_or_eq_true (x100) with hbr9|hbr9
           ·replace H:=H.1 hbr9
            replace g:=g.bool (b:=true) (t:=101) rfl (hbr9)
            exact g.on (by rfl) (by rfl) (g.mv rfl λ_ g=>g.on (by rfl) (by rfl) (g.pur (zBF g rfl rfl) λ_ g=>g.pur (zu g rfl rfl) λ_ g=>hr9 (decide (r_15=2)) _ _ H (g.wk)))
           ·replace H:=H.2 hbr9
            replace g:=g.bool (b:=false) (t:=101) rfl (hbr9)
            exact g.off (by rfl) (by rfl) (by decide) (λ_ g=>g.off (by rfl) (by rfl) (by decide) (λ_ g=>g.pur (zv g rfl rfl) λ_ g=>hr9 false _ _ H (g.wk)))
         ·rcases Bool.eq_false_or_eq_true (x94) with hbr8|hbr8
          ·replace H:=H.1 hbr8
           replace g:=g.bool (b:=true) (t:=95) rfl (hbr8)
           refine g.on (by rfl) (by rfl) (g.mv rfl λ_ g=>g.on (by rfl) (by rfl) (g.op (zAg g rfl) H λx97 w a H g=>g.on (by rfl) (by rfl) (g.op (Qz g rfl) H λx98 w a H g=>g.on (by rfl) (by rfl) (g.call (zZ g zQ9 rfl rfl) H λe w H=>?_))))
           obtain ⟨r_21,rfl,H⟩:=H
           exact ⟨_,rfl,λ_ g=>(g.pur (zu g rfl rfl) λ_ g=>hr8 r_21 _ _ H (g.wk))⟩
          ·replace H:=H.2 hbr8
           replace g:=g.bool (b:=false) (t:=95) rfl (hbr8)
           exact g.off (by rfl) (by rfl) (by decide) (λ_ g=>g.off (by rfl) (by rfl) (by decide) (λ_ g=>g.off (by rfl) (by rfl) (by decide) (λ_ g=>g.off (by rfl) (by rfl) (by decide) (λ_ g=>g.pur (zv g rfl rfl) λ_ g=>hr8 false _ _ H (g.wk)))))
        ·rcases Bool.eq_false_or_eq_true (x90) with hbr7|hbr7
         ·replace H:=H.1 hbr7
          replace g:=g.bool (b:=true) (t:=91) rfl (hbr7)
          exact g.on (by rfl) (by rfl) (g.mv rfl λ_ g=>g.on (by rfl) (by rfl) (g.pur (zBF g rfl rfl) λ_ g=>g.pur (zu g rfl rfl) λ_ g=>hr7 (decide (r_13=0)) _ _ H (g.wk)))
         ·replace H:=H.2 hbr7
          replace g:=g.bool (b:=false) (t:=91) rfl (hbr7)
          exact g.off (by rfl) (by rfl) (by decide) (λ_ g=>g.off (by rfl) (by rfl) (by decide) (λ_ g=>g.pur (zv g rfl rfl) λ_ g=>hr7 false _ _ H (g.wk)))
       ·rcases Bool.eq_false_or_eq_true (x86) with hbr6|hbr6
        ·replace H:=H.1 hbr6
         replace g:=g.bool (b:=true) (t:=87) rfl (hbr6)
         exact g.on (by rfl) (by rfl) (g.mv rfl λ_ g=>g.on (by rfl) (by rfl) (g.pur (zBF g rfl rfl) λ_ g=>g.pur (zu g rfl rfl) λ_ g=>hr6 (decide (r_12=0)) _ _ H (g.wk)))
        ·replace H:=H.2 hbr6
         replace g:=g.bool (b:=false) (t:=87) rfl (hbr6)
         exact g.off (by rfl) (by rfl) (by decide) (λ_ g=>g.off (by rfl) (by rfl) (by decide) (λ_ g=>g.pur (zv g rfl rfl) λ_ g=>hr6 false _ _ H (g.wk)))
      ·rcases Bool.eq_false_or_eq_true (x82) with hbr5|hbr5
       ·replace H:=H.1 hbr5
        replace g:=g.bool (b:=true) (t:=83) rfl (hbr5)
        exact g.on (by rfl) (by rfl) (g.mv rfl λ_ g=>g.on (by rfl) (by rfl) (g.pur (zBF g rfl rfl) λ_ g=>g.pur (zu g rfl rfl) λ_ g=>hr5 (decide (r_8=0)) _ _ H (g.wk)))
       ·replace H:=H.2 hbr5
        replace g:=g.bool (b:=false) (t:=83) rfl (hbr5)
        exact g.off (by rfl) (by rfl) (by decide) (λ_ g=>g.off (by rfl) (by rfl) (by decide) (λ_ g=>g.pur (zv g rfl rfl) λ_ g=>hr5 false _ _ H (g.wk)))
     ·rcases Bool.eq_false_or_eq_true (x79) with hbr4|hbr4
      ·replace H:=H.1 hbr4
       replace g:=g.bool (b:=true) (t:=80) rfl (hbr4)
       exact g.on (by rfl) (by rfl) (g.mv rfl λ_ g=>g.pur (zu g rfl rfl) λ_ g=>hr4 r_7 _ _ H (g.wk))
      ·replace H:=H.2 hbr4
       replace g:=g.bool (b:=false) (t:=80) rfl (hbr4)
       exact g.off (by rfl) (by rfl) (by decide) (λ_ g=>g.pur (zv g rfl rfl) λ_ g=>hr4 false _ _ H (g.wk))
    ·rcases Bool.eq_false_or_eq_true (x75) with hbr3|hbr3
     ·replace H:=H.1 hbr3
      replace g:=g.bool (b:=true) (t:=76) rfl (hbr3)
      exact g.on (by rfl) (by rfl) (g.mv rfl λ_ g=>g.on (by rfl) (by rfl) (g.pur (zMA g rfl rfl) λ_ g=>g.pur (zu g rfl rfl) λ_ g=>hr3 (decide (r_6=(ByteArray.mk #[49]))) _ _ H (g.wk)))
     ·replace H:=H.2 hbr3
      replace g:=g.bool (b:=false) (t:=76) rfl (hbr3)
      exact g.off (by rfl) (by rfl) (by decide) (λ_ g=>g.off (by rfl) (by rfl) (by decide) (λ_ g=>g.pur (zv g rfl rfl) λ_ g=>hr3 false _ _ H (g.wk)))
   ·rcases Bool.eq_false_or_eq_true (x71) with hbr2|hbr2
    ·replace H:=H.1 hbr2
     replace g:=g.bool (b:=true) (t:=72) rfl (hbr2)
     exact g.on (by rfl) (by rfl) (g.mv rfl λ_ g=>g.on (by rfl) (by rfl) (g.pur (zBF g rfl rfl) λ_ g=>g.pur (zu g rfl rfl) λ_ g=>hr2 (decide (r_4=2)) _ _ H (g.wk)))
    ·replace H:=H.2 hbr2
     replace g:=g.bool (b:=false) (t:=72) rfl (hbr2)
     exact g.off (by rfl) (by rfl) (by decide) (λ_ g=>g.off (by rfl) (by rfl) (by decide) (λ_ g=>g.pur (zv g rfl rfl) λ_ g=>hr2 false _ _ H (g.wk)))
  ·rcases Classical.em ((r_1=0)) with hbr1|hbr1
   ·replace H:=H.1 hbr1
    replace g:=g.bool (b:=true) (t:=68) rfl (decide_eq_true hbr1)
    exact g.on (by rfl) (by rfl) (g.mv rfl λ_ g=>g.on (by rfl) (by rfl) (g.pur (zBF g rfl rfl) λ_ g=>g.pur (zu g rfl rfl) λ_ g=>hr1 (decide (r_2=1)) _ _ H (g.wk)))
   ·replace H:=H.2 hbr1
    replace g:=g.bool (b:=false) (t:=68) rfl (decide_eq_false hbr1)
    exact g.off (by rfl) (by rfl) (by decide) (λ_ g=>g.off (by rfl) (by rfl) (by decide) (λ_ g=>g.pur (zv g rfl rfl) λ_ g=>hr1 false _ _ H (g.wk)))
end Go.Proofs.YtealcoghiaeiiaaGreat.VG
set_option linter.unusedVariables false
namespace Go.Proofs.YtealcoghiaeiiaaGreat.VG
open Go.VB Go.Proofs Go.RowKit
theorem zKt {κ ν:Type} {f:κ->Option ν} {ks D:List κ} (h:Doms f ks) (hD:∀ k v,f k=some v->k∈D):ks.length<=D.length:=zFg h.1 λk hk=>by
 obtain ⟨v,hv⟩:=(h.2 k).1 hk;exact hD k v hv
theorem zKe (s:St) (n:Int):(zAc s n).now=s.now:=by unfold zAc zIn;split<;>rfl
theorem zIt (s:St) (n:Int):(zAc s n).tx=del s.tx n:=by unfold zAc zIn;split<;>rfl
abbrev t3:ByteArray:=ByteArray.mk #[51]
abbrev l1:List Pai:=[⟨tA,t1⟩]
abbrev v1:Ver:=⟨tA,1,t1,false⟩
abbrev wX:Wri:=⟨tA,t2,false⟩
theorem zP3:zCM [v1] 1:=zJa (by decide) (by decide) (by intro x hx;simp at hx;subst hx;exact ⟨by decide,by decide,λh=>(nomatch h),by decide,by decide⟩) (by simp)
theorem zP4:pwhy [v1] 1 [wX] 2=0:=zFW.2 ⟨zP3,zE0.2 ⟨by decide,by intro w hw;simp at hw;subst hw;unfold zBJ;decide,by simp [zDP]⟩,by decide,by decide,by decide,by intro x hx;simp at hx;subst hx;decide,by decide⟩
theorem put1:vput [v1] 1 [wX] 2=(putL [v1] 2 [wX],1,0):=by unfold vput;rw [if_neg (by rw [zP4];decide)]
theorem zLY {s:St} {ks:List Int} (hd:Doms s.tx ks):∃ lo,zGN s lo:=by
 have:∀ ks:List Int,∃ lo,lo<=s.now/\(∀ k∈ks,∀ t,s.tx k=some t->lo<=t.began)/\(lo=s.now∨∃ k t,s.tx k=some t/\lo=t.began):=by
  intro ks
  induction ks with
  |nil=>exact ⟨s.now,Int.le_refl _,by simp,.inl rfl⟩
  |cons k ks ih=>
   obtain ⟨lo,h1,h2,h3⟩:=ih
   cases ht:s.tx k with
   |none=>exact ⟨lo,h1,λj hj t hjt=>by
     rcases List.mem_cons.1 hj with e|e
     ·subst e;rw [ht] at hjt;cases hjt
     ·exact h2 j e t hjt,h3⟩
   |some u=>
    by_cases hu:u.began<lo
    ·exact ⟨u.began,by omega,λj hj t hjt=>by
      rcases List.mem_cons.1 hj with e|e
      ·subst e;rw [ht] at hjt;cases hjt;exact Int.le_refl _
      ·have:=h2 j e t hjt;omega,.inr ⟨k,u,ht,rfl⟩⟩
    ·exact ⟨lo,h1,λj hj t hjt=>by
      rcases List.mem_cons.1 hj with e|e
      ·subst e;rw [ht] at hjt;cases hjt;omega
      ·exact h2 j e t hjt,h3⟩
 obtain ⟨lo,h1,h2,h3⟩:=this ks
 exact ⟨lo,h1,λn t ht=>h2 n ((hd.2 n).2 ⟨t,ht⟩) t ht,h3⟩
theorem zOK {s:St} {n:Int} {v:Ver} (hv:v∈s.l) (hs:s.l.Pairwise vlt) {m:Int} {t:Tx} (ht:s.tx m=some t) (hm:m≠n) (ha:t.began<v.At) (hlow:∃ lo,zGN (delTx s n) lo):v∈(zAc s n).l:=by
 unfold zAc zIn
 split
 ·rename_i h
  obtain ⟨h1,h2,h3,h4⟩:=zN1 h
  show v∈(zDB (delTx s n).l (delTx s n).low (zJs (delTx s n))).1
  rw [h4]
  obtain ⟨lo,hlo⟩:=hlow
  have h5:lo<=t.began:=hlo.all m t (by show del s.tx n m=_;rw [zBT _ hm];exact ht)
  have h6:=hlo.eq
  exact (zJY hs).2 ⟨hv,λy _ _ h=>by omega,λh=>by omega⟩
 ·exact hv
theorem zOm (w:World) {k:Bool->World->Prop} (H:∀ w',Bel w w'->k true w'):Cl zA zHa [].toArray w (λe w'=>∃ r0:Bool,e=.returned (.bool r0)/\k r0 w'):=by
 refine zHf w k ?_
 unfold zEQ
 refine ⟨⟨tA,t1⟩,w,by kernel_rfl,?_⟩
 have hl1:=Rd.lit (c:=zL.cells) (n:=2) (λ_=>rfl) l1 (by decide) w ZU
 have b1:Bel w (w.alloc (.cells (l1.flatMap zL.cells).toArray ZU)):=Bel.alloc _ _
 refine ⟨⟨some ⟨w.heap.size,0,none⟩,1,1⟩,(w.alloc (.cells (l1.flatMap zL.cells).toArray ZU)),by kernel_rfl,?_⟩
 generalize (w.alloc (.cells (l1.flatMap zL.cells).toArray ZU))=w1 at hl1 b1 ⊢
 have hnl:l1.any zHC=false:=by decide
 refine zPH (l:=l1) hl1 (λh=>absurd h (by decide)) (λ_ h=>absurd h (by rw [hnl];decide)) (λ_ _ h=>absurd (λj x y hj hx hy=>by simp at hj) h) λ_ _ _ b ρ w2 b2 m2 hρ=>?_
 have b02:=b1.trans b2
 have hρ0:∀ q,q<w.heap.size->ρ q=none:=λq hq=>hρ q (xf hq b1.le)
 refine zKQ _ ⟨λh=>(nomatch h),λ_=>?_⟩
 have hd0:∀ {ks},Doms (newS l1).tx ks->ks.length<=([]:List Int).length:=λh=>zKt h λq v hv=>by cases hv
 refine zJ5 m2 (by decide) (by decide) rfl (λks hks h=>by exfalso;have:=hd0 hks;simp only [List.length_nil] at this;omega) λks ρ3 w3 _ _ m3 e3=>?_
 let T0:Tx:=zFe (newS l1)
 have tx1:(zCR (newS l1)).tx=upd (λ_=>none) 1 T0:=rfl
 have hd1:∀ {ks},Doms (zCR (newS l1)).tx ks->ks.length<=([1]:List Int).length:=λh=>zKt h λq v hv=>by
  by_cases hq:q=1
  ·subst hq;simp
  ·rw [tx1,yT _ _ hq] at hv;cases hv
 refine zJ5 m3 (by show (0:Int)<=0+1;decide) (by show (0:Int)+1<_;decide) (by rw [tx1];exact yT _ _ (by show (0:Int)+1+1≠1;decide)) (λks hks h=>by exfalso;have:=hd1 hks;simp only [List.length_cons,List.length_nil] at this;omega) λks ρ4 w4 _ _ m4 e4=>?_
 have e24:=e3.trans e4
 generalize hS2:zCR (zCR (newS l1))=S2 at m4
 have n2:S2.now=1:=by rw [← hS2];rfl
 have l2:S2.l=[v1]:=by rw [← hS2];rfl
 have lo2:S2.low=1:=by rw [← hS2];rfl
 have x21:S2.tx 1=some T0:=by rw [← hS2];show upd (zCR (newS l1)).tx 2 _ 1=_;rw [yT _ _ (by decide),tx1,Ql]
 have x22:S2.tx 2=some T0:=by rw [← hS2];show upd (zCR (newS l1)).tx 2 _ 2=_;rw [Ql];rfl
 have x2o:∀ q,q≠1->q≠2->S2.tx q=none:=λq h1 h2=>by rw [← hS2];show upd (zCR (newS l1)).tx 2 _ q=_;rw [yT _ _ h2,tx1,yT _ _ h1]
 clear hS2
 refine zOj m4 1 tA (λh=>by rw [x21] at h;cases h) (λt _ h=>absurd h (by decide)) (λt ht _ h=>by rw [x21] at ht;cases ht;simp [T0,zFe] at h) λt ρ5 w5 ht _ _ m5 e5=>?_
 rw [x21] at ht;cases ht
 have hget:tget S2 T0 tA=(t1,true,0):=by
  show vget S2.l S2.low tA 1=_
  rw [l2,lo2,zPa zP3 (by decide),show ([v1]:List Ver)=[v1] from rfl,zLT,if_pos ⟨rfl,by decide⟩];rfl
 rw [hget]
 let T1:Tx:=addR T0 (zIo tA)
 have x31:(setTx S2 1 T1).tx 1=some T1:=by simp [setTx,Ql]
 have x32:(setTx S2 1 T1).tx 2=some T0:=by simp only [setTx];rw [yT _ _ (by decide)];exact x22
 refine zOj m5 2 tA (λh=>by rw [x32] at h;cases h) (λt _ h=>absurd h (by decide)) (λt ht _ h=>by rw [x32] at ht;cases ht;simp [T0,zFe] at h) λt ρ6 w6 ht _ _ m6 e6=>?_
 rw [x32] at ht;cases ht
 have e26:=(e24.trans e5).trans e6
 generalize hS4:setTx (setTx S2 1 T1) 2 (addR T0 (zIo tA))=S4 at m6
 have x41:S4.tx 1=some T1:=by rw [← hS4];simp only [setTx];rw [yT _ _ (by decide),Ql]
 have x42:S4.tx 2=some T1:=by rw [← hS4];simp only [setTx];rw [Ql]
 have x4o:∀ q,q≠1->q≠2->S4.tx q=none:=λq h1 h2=>by rw [← hS4];simp only [setTx];rw [yT _ _ h2,yT _ _ h1];exact x2o q h1 h2
 have n4:S4.now=1:=by rw [← hS4];exact n2
 have l4:S4.l=[v1]:=by rw [← hS4];exact l2
 have lo4:S4.low=1:=by rw [← hS4];exact lo2
 clear hS4
 have hnoW:∀ {ks},Doms T1.wr ks->ks.length<=([]:List ByteArray).length:=λh=>zKt h λq v hv=>by cases hv
 refine zMF 1 tA t2 (zJr m6 1 ⟨tA,t2,false⟩ (λh=>by rw [x41] at h;cases h) (λt _ h=>absurd h (by unfold zBJ;decide)) (λt ks ht _ _ hks h=>by rw [x41] at ht;cases ht;have:=hnoW hks;simp only [List.length_nil] at this;exfalso;omega) λt w7 ht _ _ m7 e7=>?_)
 rw [x41] at ht;cases ht
 let P1:Tx:=putW T1 wX
 let P2:Tx:=putW T1 ⟨tA,t3,false⟩
 have x52:(setTx S4 1 P1).tx 2=some T1:=by simp only [setTx];rw [yT _ _ (by decide)];exact x42
 refine zMF 2 tA t3 (zJr m7 2 ⟨tA,t3,false⟩ (λh=>by rw [x52] at h;cases h) (λt _ h=>absurd h (by unfold zBJ;decide)) (λt ks ht _ _ hks h=>by rw [x52] at ht;cases ht;have:=hnoW hks;simp only [List.length_nil] at this;exfalso;omega) λt w8 ht _ _ m8 e8=>?_)
 rw [x52] at ht;cases ht
 have e28:=(e26.trans e7).trans e8
 generalize hS6:setTx (setTx S4 1 P1) 2 (putW T1 ⟨tA,t3,false⟩)=S6 at m8
 have x61:S6.tx 1=some P1:=by rw [← hS6];simp only [setTx];rw [yT _ _ (by decide),Ql]
 have x62:S6.tx 2=some P2:=by rw [← hS6];simp only [setTx];rw [Ql]
 have x6o:∀ q,q≠1->q≠2->S6.tx q=none:=λq h1 h2=>by rw [← hS6];simp only [setTx];rw [yT _ _ h2,yT _ _ h1];exact x4o q h1 h2
 have n6:S6.now=1:=by rw [← hS6];exact n4
 have l6:S6.l=[v1]:=by rw [← hS6];exact l4
 have lo6:S6.low=1:=by rw [← hS6];exact lo4
 clear hS6
 have few:∀ x:Wri,x.Key=tA->Few (putW T1 x)/\zM5 (putW T1 x):=λx hx=>by
  have hw:(putW T1 x).wr=upd (λ_=>none) tA x:=by show upd _ x.Key x=_;rw [hx];rfl
  refine ⟨⟨[tA],⟨by simp,λq=>?_⟩,by decide⟩,λq y hy=>?_⟩
  ·rw [hw]
   by_cases hq:q=tA
   ·subst hq;simp [Ql]
   ·simp [yT _ _ hq,hq]
  ·rw [hw] at hy
   by_cases hq:q=tA
   ·subst hq;rw [Ql] at hy;cases hy;exact hx
   ·rw [yT _ _ hq] at hy;cases hy
 have w1:P1.wr=upd (λ_=>none) tA wX:=rfl
 have srt:zD0 P1.wr [wX]:=⟨by simp,λz=>by
  rw [w1]
  by_cases hq:z.Key=tA
  ·rw [hq,Ql];simp;exact eq_comm
  ·rw [yT _ _ hq];simp;intro e;subst e;exact hq rfl⟩
 have noc:S6.l.any (conf P1)=false:=by rw [l6];show (decide ((1:Int)<1)&&_||false)=false;rw [show decide ((1:Int)<1)=false from by decide];rfl
 refine zI6 m8 1 (λt ht=>by rw [x61] at ht;cases ht;exact few wX rfl) (by rw [n6];decide) (by rw [n6];decide) (λh=>by rw [x61] at h;cases h) (λt ρ' w' ht h=>by rw [x61] at ht;cases ht;rw [noc] at h;cases h) (λt ρ' w' ht _ h=>by rw [x61] at ht;cases ht;have:=h tA;rw [w1,Ql] at this;cases this)
  (λt ys ρ' w' ht _ hS _ h=>by
   rw [x61] at ht;cases ht
   rw [hS.one srt,n6,l6,lo6,show (1:Int)+1=2 from rfl,put1] at h
   exact absurd rfl h) λt ys r ρ9 w9 ht _ hS _ _ m9 e9 hr hq=>?_
 rw [x61] at ht;cases ht
 obtain rfl:=hS.one srt
 rw [n6,l6,lo6,show (1:Int)+1=2 from rfl,put1] at m9
 rw [n6,show (1:Int)+1=2 from rfl]
 have hdm:Doms (delTx (putS S6 (putL [v1] 2 [wX],1,0)) 1).tx [2]:=⟨by simp,λq=>by
  show q∈[2]↔∃ v,del S6.tx 1 q=some v
  by_cases h1:q=1
  ·subst h1;simp [zEX]
  ·rw [zBT _ h1]
   by_cases h2:q=2
   ·subst h2;simp [x62]
   ·simp [x6o q h1 h2,h2]⟩
 have hmem:mk 2 wX∈(zAc (putS S6 (putL [v1] 2 [wX],1,0)) 1).l:=zOK (m:=2) (t:=P2) (zGW.2 (.inr ⟨wX,by simp,rfl⟩)) (zGv zP4) x62 (by decide) (by show (1:Int)<2;decide) (zLY hdm)
 generalize hS7:zAc (putS S6 (putL [v1] 2 [wX],1,0)) 1=S7 at m9 hmem
 have n7:S7.now=2:=by rw [← hS7,zKe];show S6.now+1=2;rw [n6];rfl
 have x72:S7.tx 2=some P2:=by rw [← hS7,zIt,zBT _ (by decide)];exact x62
 clear hS7
 have con:S7.l.any (conf P2)=true:=List.any_eq_true.2 ⟨_,hmem,by decide⟩
 have e29:=e28.trans e9
 refine zI6 m9 2 (λt ht=>by rw [x72] at ht;cases ht;exact few _ rfl) (by rw [n7];decide) (by rw [n7];decide) (λh=>by rw [x72] at h;cases h) (λt ρ10 w10 ht _ m10 e10=>?_) (λt ρ' w' ht h=>by rw [x72] at ht;cases ht;rw [con] at h;cases h) (λt ys ρ' w' ht h=>by rw [x72] at ht;cases ht;rw [con] at h;cases h) (λt ys r ρ' w' ht h=>by rw [x72] at ht;cases ht;rw [con] at h;cases h)
 have hr10:zHs w10 r [wX]:=(zDj.rd hr).keep λq h=>by obtain ⟨_,h1,h2⟩:=hq q h;exact e10.blk h1 h2
 have b10:Bel w w10:=(e29.trans e10).base b02 hρ0
 obtain ⟨vs,mb,g,m10⟩:=m10
 have n10:(zAc S7 2).now=2:=by rw [zKe];exact n7
 refine ⟨λ_=>?_,λh=>absurd rfl h⟩
 unfold zA1
 refine ⟨λ_=>?_,λh=>absurd h (by decide)⟩
 unfold zA2
 refine ⟨λ_=>?_,λh=>absurd h (by decide)⟩
 unfold zAt
 refine ⟨λ_=>?_,λh=>absurd h (by decide)⟩
 unfold zAx
 refine ⟨λ_=>?_,λh=>(nomatch h)⟩
 unfold zAs
 refine ⟨λ_=>?_,λh=>absurd h (by decide)⟩
 unfold zAv
 refine ⟨λ_=>?_,λh=>absurd h (by decide)⟩
 unfold zAq
 refine ⟨λ_=>?_,λh=>absurd h (by decide)⟩
 refine ⟨wX,w10,by kernel_rfl,?_⟩
 have hl2:=Rd.lit (c:=zI.cells) (n:=3) (λ_=>rfl) [wX] (by decide) w10 Za
 have b11:Bel w10 (w10.alloc (.cells ([wX].flatMap zI.cells).toArray Za)):=Bel.alloc _ _
 refine ⟨⟨some ⟨w10.heap.size,0,none⟩,1,1⟩,(w10.alloc (.cells ([wX].flatMap zI.cells).toArray Za)),by kernel_rfl,?_⟩
 generalize (w10.alloc (.cells ([wX].flatMap zI.cells).toArray Za))=w11 at hl2 b11 ⊢
 refine zN5 (hr10.bel b11) hl2 λc w12 hc b12=>?_
 obtain rfl:c=true:=hc.2 rfl
 unfold zAr
 refine ⟨λ_=>?_,λh=>(nomatch h)⟩
 unfold zA0
 refine ⟨λ_=>?_,λh=>absurd h (by decide)⟩
 unfold zAe
 refine ⟨λ_=>?_,λh=>absurd h (by decide)⟩
 unfold zAb
 refine ⟨λ_=>?_,λh=>absurd h (by decide)⟩
 refine zQd ((m10.bel b11).bel b12) ?_
 unfold zAZ
 rw [n10]
 exact H w12 ((b10.trans b11).trans b12)
end Go.Proofs.YtealcoghiaeiiaaGreat.VG
set_option linter.unusedVariables false
namespace Go.Proofs.YtealcoghiaeiiaaGreat.VG
open Go.VB Go.Proofs Go.RowKit
section
variable {κ ν:Type}
theorem zL1 {f:κ->Option ν} {ks js:List κ} (h:Doms f ks) (k:Doms f js):ks.length=js.length:=
 Nat.le_antisymm (zFg h.1 λx hx=>(k.2 x).2 ((h.2 x).1 hx)) (zFg k.1 λx hx=>(h.2 x).2 ((k.2 x).1 hx))
open Classical in
noncomputable def cnt (f:κ->Option ν):Nat:=if h:∃ ks,Doms f ks then h.choose.length else 0
theorem zGu {f:κ->Option ν} {ks:List κ} (h:Doms f ks):cnt f=ks.length:=by
 have:∃ ks,Doms f ks:=⟨ks,h⟩
 unfold cnt;rw [dif_pos this];exact zL1 this.choose_spec h
theorem zJn {f:κ->Option ν} {ks:List κ} (h:Doms f ks) (k:κ) (v:ν):∃ js,Doms (upd f k v) js/\js.length<=ks.length+1/\(f k≠none->js.length=ks.length):=by
 by_cases hk:k∈ks
 ·refine ⟨ks,⟨h.1,λx=>?_⟩,by omega,λ_=>rfl⟩
  by_cases hx:x=k
  ·subst hx;rw [Ql];exact ⟨λ_=>⟨v,rfl⟩,λ_=>hk⟩
  ·rw [yT _ _ hx];exact h.2 x
 ·refine ⟨k::ks,⟨List.nodup_cons.2 ⟨hk,h.1⟩,λx=>?_⟩,by simp,λhn=>absurd ((h.2 k).2 (Option.ne_none_iff_exists'.1 hn)) hk⟩
  by_cases hx:x=k
  ·subst hx;rw [Ql];exact ⟨λ_=>⟨v,rfl⟩,λ_=>by simp⟩
  ·rw [yT _ _ hx,← h.2 x,List.mem_cons];exact ⟨λh1=>h1.resolve_left hx,.inr⟩
theorem zL2 {f:κ->Option ν} {ks:List κ} (h:Doms f ks) (k:κ):∃ js,Doms (del f k) js/\js.length<=ks.length:=by
 classical
 refine ⟨ks.filter (λx=>decide (x≠k)),⟨h.1.sublist List.filter_sublist,λx=>?_⟩,List.length_filter_le _ _⟩
 rw [List.mem_filter,h.2 x]
 by_cases hx:x=k
 ·subst hx;rw [zEX];simp
 ·rw [zBT _ hx];simp [hx]
end
section
variable {α:Type} (key:α->ByteArray)
abbrev Rise (ys:List α):Prop:=ys.Pairwise (λa b=>sLt (key a) (key b)=true)
theorem zOF (x:α):∀ ys:List α,Rise key ys->(∀ y∈ys,key y≠key x)->∃ zs,Rise key zs/\∀ z,z∈zs↔z=x∨z∈ys
 |[],_,_=>⟨[x],by simp,by simp⟩
 |y::ys,h,hk=>by
  obtain ⟨h1,h2⟩:=List.pairwise_cons.1 h
  by_cases c:sLt (key x) (key y)=true
  ·refine ⟨x::y::ys,List.pairwise_cons.2 ⟨λz hz=>?_,h⟩,by simp⟩
   rcases List.mem_cons.1 hz with e|e
   ·rw [e];exact c
   ·exact zG2 c (h1 z e)
  ·have hyx:sLt (key y) (key x)=true:=zD4 c (λe=>hk y (by simp) e.symm)
   obtain ⟨zs,h3,h4⟩:=zOF x ys h2 (λz hz=>hk z (by simp [hz]))
   refine ⟨y::zs,List.pairwise_cons.2 ⟨λz hz=>?_,h3⟩,λz=>?_⟩
   ·rcases (h4 z).1 hz with e|e
    ·rw [e];exact hyx
    ·exact h1 z e
   ·rw [List.mem_cons,List.mem_cons,h4]
    constructor
    ·rintro (e|e|e)
     ·exact .inr (.inl e)
     ·exact .inl e
     ·exact .inr (.inr e)
    ·rintro (e|e|e)
     ·exact .inr (.inl e)
     ·exact .inl e
     ·exact .inr (.inr e)
theorem zM6:∀ xs:List α,xs.Pairwise (λa b=>key a≠key b)->∃ ys,Rise key ys/\∀ z,z∈ys↔z∈xs
 |[],_=>⟨[],by simp,by simp⟩
 |x::xs,h=>by
  obtain ⟨h1,h2⟩:=List.pairwise_cons.1 h
  obtain ⟨ys,h3,h4⟩:=zM6 xs h2
  obtain ⟨zs,h5,h6⟩:=zOF key x ys h3 (λy hy e=>h1 y ((h4 y).1 hy) e.symm)
  exact ⟨zs,h5,λz=>by rw [h6,h4,List.mem_cons]⟩
theorem zPF {xs ys:List α} (h1:Rise key xs) (k1:Rise key ys) (hm:∀ x,x∈xs↔x∈ys):xs=ys:=by
 induction xs generalizing ys with
 |nil=>cases ys with
  |nil=>rfl
  |cons b ys=>exact absurd ((hm b).2 (by simp)) (by simp)
 |cons a xs ih=>
  cases ys with
  |nil=>exact absurd ((hm a).1 (by simp)) (by simp)
  |cons b ys=>
   obtain ⟨h2,h3⟩:=List.pairwise_cons.1 h1
   obtain ⟨k2,k3⟩:=List.pairwise_cons.1 k1
   have hab:a=b:=by
    rcases List.mem_cons.1 ((hm a).1 (by simp)) with e|e
    ·exact e
    ·rcases List.mem_cons.1 ((hm b).2 (by simp)) with e'|e'
     ·exact e'.symm
     ·exact absurd (h2 b e') (zGo (k2 a e))
   subst hab
   rw [ih h3 k3 (λx=>?_)]
   constructor
   ·intro hx
    rcases List.mem_cons.1 ((hm x).1 (by simp [hx])) with e|e
    ·subst e;exact absurd (h2 x hx) (Zl _)
    ·exact e
   ·intro hx
    rcases List.mem_cons.1 ((hm x).2 (by simp [hx])) with e|e
    ·subst e;exact absurd (k2 x hx) (Zl _)
    ·exact e
end
open Classical in
noncomputable def zGp (f:ByteArray->Option Wri):List Wri:=if h:∃ ys,zD0 f ys then h.choose else []
theorem zFv {f:ByteArray->Option Wri} {ys:List Wri} (h:zD0 f ys):zGp f=ys:=by
 have:∃ ys,zD0 f ys:=⟨ys,h⟩
 unfold zGp;rw [dif_pos this];exact this.choose_spec.one h
theorem zJo {f:ByteArray->Option Wri} {ks:List ByteArray} (hd:Doms f ks) (hk:∀ k x,f k=some x->x.Key=k):zD0 f (zGp f)/\(zGp f).length=ks.length:=by
 have hnd:(ks.filterMap f).Pairwise (λx y=>x.Key≠y.Key):=by
  rw [List.pairwise_filterMap]
  refine hd.1.imp λ{a b} hab x hx y hy e=>hab ?_
  rw [← hk a x hx,← hk b y hy,e]
 obtain ⟨ys,h1,h2⟩:=zM6 (λx:Wri=>x.Key) _ hnd
 have hS:zD0 f ys:=⟨h1,λx=>by
  rw [h2,List.mem_filterMap]
  constructor
  ·rintro ⟨k,_,h⟩
   rw [hk k x h];exact h
  ·exact λh=>⟨x.Key,(hd.2 _).2 ⟨x,h⟩,h⟩⟩
 rw [zFv hS]
 refine ⟨hS,?_⟩
 rw [← zGQ f ks λk hk'=>(hd.2 k).1 hk']
 refine Nat.le_antisymm (zFg ?_ λx hx=>(h2 x).1 hx) (zFg ?_ λx hx=>(h2 x).2 hx)
 ·exact h1.imp λ{a b} h e=>by subst e;exact Zl _ h
 ·exact hnd.imp λ{a b} h e=>h (by rw [e])
theorem zD0.keys {f:ByteArray->Option Wri} {ys:List Wri} (h:zD0 f ys):(zDP ys).Nodup:=by
 unfold zDP
 rw [List.Nodup,List.pairwise_map]
 exact h.1.imp λ{a b} h e=>by rw [e] at h;exact Zl _ h
def zAh (f:ByteArray->Option ByteArray) (ys:List Pai):Prop:=Rise (λp:Pai=>p.Key) ys/\∀ p:Pai,p∈ys↔f p.Key=some p.Val
theorem zAh.one {f:ByteArray->Option ByteArray} {xs ys:List Pai} (h:zAh f xs) (k:zAh f ys):xs=ys:=zPF _ h.1 k.1 λx=>by rw [h.2,k.2]
open Classical in
noncomputable def zIY (f:ByteArray->Option ByteArray):List Pai:=if h:∃ ys,zAh f ys then h.choose else []
theorem zJy {f:ByteArray->Option ByteArray} {ys:List Pai} (h:zAh f ys):zIY f=ys:=by
 have:∃ ys,zAh f ys:=⟨ys,h⟩
 unfold zIY;rw [dif_pos this];exact this.choose_spec.one h
def val (l:List Ver) (key:ByteArray) (T:Int):Option ByteArray:=match sees l key T with
 |none=>none
 |some x=>if x.Gone=true then none else some x.Val
theorem zPE (l:List Ver) (key:ByteArray) (T:Int):val l key T=if (outV (sees l key T)).2=true then some (outV (sees l key T)).1 else none:=by
 unfold val
 cases h:sees l key T with
 |none=>rfl
 |some x=>cases hg:x.Gone<;>simp [outV,hg]
theorem zPO {l:List Ver} {low:Int} (h:zCM l low) (key:ByteArray) (T:Int):outV (sees l key T)=((val l key T).getD noB,(val l key T).isSome):=by
 unfold val
 cases hs:sees l key T with
 |none=>rfl
 |some x=>
  have hm:=h.made (zGh hs).1
  cases hg:x.Gone
  ·simp [outV,hg]
  ·simp [outV,hg,hm.gone hg]
theorem zPQ {l:List Ver} {low0:Int} (hg:zCM l low0) {low T:Int} (h:low<=T) (key:ByteArray):val (swp low l) key T=val l key T:=by rw [zPE,zPE,zOT hg h]
theorem zOY {l:List Ver} {low n T:Int} (hg:zCM l low) (h:∀ x∈l,x.At<=n) (hT:n<=T) (key:ByteArray):val l key T=val l key n:=by
 unfold val
 rw [zJl hg.sorted hg.sorted (s:=T) (t:=n) λx _=>⟨λ⟨h1,_⟩=>⟨h1,h x h1⟩,λ⟨h1,h2⟩=>⟨h1,by omega⟩⟩]
def ovl (wr:ByteArray->Option Wri) (f:ByteArray->Option ByteArray) (key:ByteArray):Option ByteArray:=match wr key with
 |some x=>if x.Gone=true then none else some x.Val
 |none=>f key
theorem zLZ {l:List Ver} {low n:Int} {m:List Wri} {wr:ByteArray->Option Wri} (h:pwhy l low m (n+1)=0) (hn:∀ x∈l,x.At<=n) (hS:zD0 wr m) (hk:∀ k x,wr k=some x->x.Key=k) (key:ByteArray):
  val (putL l (n+1) m) key (n+1)=ovl wr (λk=>val l k n) key:=by
 have hg:=(zFW.1 h).1
 unfold ovl
 cases hw:wr key with
 |some x=>
  have hxk:=hk key x hw
  have hx:x∈m:=(hS.2 x).2 (by rw [hxk];exact hw)
  have:=zPN h (Int.le_refl _) hx
  rw [hxk] at this
  simp only [val,this,mk]
  cases x.Gone<;>simp
 |none=>
  have h1:sees (putL l (n+1) m) key (n+1)=sees l key (n+1):=zNW h (Int.le_refl _) λy hy e=>by
   have:=(hS.2 y).1 hy;rw [e,hw] at this;cases this
  simp only
  rw [← zOY hg hn (show n<=n+1 by omega) key]
  unfold val;rw [h1]
structure TxOk (t:Tx):Prop where
 few:Few t
 keyed:zM5 t
 short:∀ k x,t.wr k=some x->¬ zBJ x
 bare:∀ k x,t.wr k=some x->x.Gone=true->x.Val=noB
 rds:t.reads.length<=256
structure Inv (s:St):Prop where
 good:zCM s.l s.low
 lo:1<=s.low
 lonow:s.low<=s.now
 past:∀ x∈s.l,x.At<=s.now
 giv:0<=s.given
 dom:∃ ks,Doms s.tx ks/\ks.length<=16
 num:∀ n t,s.tx n=some t->1<=n/\n<=s.given
 tim:∀ n t,s.tx n=some t->s.low<=t.began/\t.began<=s.now
 txok:∀ n t,s.tx n=some t->TxOk t
theorem Inv.free {s:St} (h:Inv s):s.tx (s.given+1)=none:=by
 cases ht:s.tx (s.given+1) with
 |none=>rfl
 |some t=>have:=h.num _ t ht;omega
abbrev maxT:Int:=2305843009213693952
theorem zOk (s:St):TxOk (zFe s):=⟨⟨[],⟨List.nodup_nil,λk=>by simp [zFe]⟩,by simp⟩,λk x h=>(nomatch h),λk x h=>(nomatch h),λk x h=>(nomatch h),by simp [zFe]⟩
theorem zI9 {s:St} (h:Inv s) (hc:cnt s.tx<16):Inv (zCR s) where
 good:=h.good
 lo:=h.lo
 lonow:=h.lonow
 past:=h.past
 giv:=by show 0<=s.given+1;have:=h.giv;omega
 dom:=by
  obtain ⟨ks,hd,hl⟩:=h.dom
  rw [zGu hd] at hc
  obtain ⟨js,h1,h2,_⟩:=zJn hd (s.given+1) (zFe s)
  exact ⟨js,h1,by omega⟩
 num n t ht:=by
  show 1<=n/\n<=s.given+1
  have hg:=h.giv
  by_cases hn:n=s.given+1
  ·omega
  ·have:=h.num n t (by rw [← yT s.tx (zFe s) hn];exact ht);omega
 tim n t ht:=by
  show s.low<=t.began/\t.began<=s.now
  by_cases hn:n=s.given+1
  ·subst hn
   have h1:upd s.tx (s.given+1) (zFe s) (s.given+1)=some t:=ht
   rw [Ql] at h1;cases h1
   exact ⟨h.lonow,Int.le_refl _⟩
  ·exact h.tim n t (by rw [← yT s.tx (zFe s) hn];exact ht)
 txok n t ht:=by
  by_cases hn:n=s.given+1
  ·subst hn
   have h1:upd s.tx (s.given+1) (zFe s) (s.given+1)=some t:=ht
   rw [Ql] at h1;cases h1
   exact zOk s
  ·exact h.txok n t (by rw [← yT s.tx (zFe s) hn];exact ht)
theorem zI7 {s:St} (h:Inv s) {n:Int} {t t':Tx} (ht:s.tx n=some t) (hb:t'.began=t.began) (hk:TxOk t'):Inv (setTx s n t') where
 good:=h.good
 lo:=h.lo
 lonow:=h.lonow
 past:=h.past
 giv:=h.giv
 dom:=by
  obtain ⟨ks,hd,hl⟩:=h.dom
  obtain ⟨js,h1,_,h2⟩:=zJn hd n t'
  exact ⟨js,h1,by rw [h2 (by rw [ht];simp)];exact hl⟩
 num m u hu:=by
  show 1<=m/\m<=s.given
  by_cases hm:m=n
  ·subst hm;exact h.num _ t ht
  ·exact h.num m u (by rw [← yT s.tx t' hm];exact hu)
 tim m u hu:=by
  show s.low<=u.began/\u.began<=s.now
  by_cases hm:m=n
  ·subst hm
   have h1:upd s.tx m t' m=some u:=hu
   rw [Ql] at h1;cases h1
   rw [hb];exact h.tim _ t ht
  ·exact h.tim m u (by rw [← yT s.tx t' hm];exact hu)
 txok m u hu:=by
  by_cases hm:m=n
  ·subst hm
   have h1:upd s.tx m t' m=some u:=hu
   rw [Ql] at h1;cases h1;exact hk
  ·exact h.txok m u (by rw [← yT s.tx t' hm];exact hu)
theorem zNC {t:Tx} (h:TxOk t) (hl:t.reads.length<256) (x:Spn):TxOk (addR t x):=⟨h.few,h.keyed,h.short,h.bare,by simp [addR];omega⟩
theorem zPe {t:Tx} (h:TxOk t) {x:Wri} (hx:¬ zBJ x) (hb:x.Gone=true->x.Val=noB) (hl:t.wr x.Key=none->cnt t.wr<256):TxOk (putW t x) where
 few:=by
  obtain ⟨ks,hd,hk⟩:=h.few
  obtain ⟨js,h1,h2,h3⟩:=zJn hd x.Key x
  refine ⟨js,h1,?_⟩
  by_cases hn:t.wr x.Key=none
  ·have:=hl hn;rw [zGu hd] at this;omega
  ·rw [h3 hn];exact hk
 keyed k y hy:=by
  have h1:upd t.wr x.Key x k=some y:=hy
  by_cases hk:k=x.Key
  ·subst hk;rw [Ql] at h1;cases h1;rfl
  ·rw [yT _ _ hk] at h1;exact h.keyed k y h1
 short k y hy:=by
  have h1:upd t.wr x.Key x k=some y:=hy
  by_cases hk:k=x.Key
  ·subst hk;rw [Ql] at h1;cases h1;exact hx
  ·rw [yT _ _ hk] at h1;exact h.short k y h1
 bare k y hy:=by
  have h1:upd t.wr x.Key x k=some y:=hy
  by_cases hk:k=x.Key
  ·subst hk;rw [Ql] at h1;cases h1;exact hb
  ·rw [yT _ _ hk] at h1;exact h.bare k y h1
 rds:=h.rds
theorem zMx {s:St} (h:Inv s) (hn:s.now<=maxT) (n:Int):∃ lo,zGN (delTx s n) lo/\s.low<=lo/\lo<=s.now/\zAc s n={delTx s n with l:=swp lo s.l,low:=lo}:=by
 obtain ⟨ks,hd,_⟩:=h.dom
 obtain ⟨js,hj,_⟩:=zL2 hd n
 obtain ⟨lo,hlo⟩:=zLY (s:=delTx s n) hj
 have h1:lo<=s.now:=hlo.now
 have h2:s.low<=lo:=by
  rcases hlo.hit with e|⟨m,t,ht,e⟩
  ·rw [e];exact h.lonow
  ·have hm:m≠n:=λe'=>by subst e';simp [delTx,zEX] at ht
   have ht':s.tx m=some t:=by simpa [delTx,zBT _ hm] using ht
   rw [e];exact (h.tim m t ht').1
 have hv:zDB (delTx s n).l (delTx s n).low lo=(swp lo s.l,lo,0):=zNr h.good h2 (by unfold maxT at hn;omega)
 refine ⟨lo,hlo,h2,h1,?_⟩
 unfold zAc zIn
 rw [← hlo.eq,hv]
 rfl
theorem zPl {s:St} {n m:Int} {t:Tx} (h:(zAc s n).tx m=some t):m≠n/\s.tx m=some t:=by
 rw [zIt] at h
 have hm:m≠n:=λe=>by subst e;rw [zEX] at h;cases h
 exact ⟨hm,by rw [zBT _ hm] at h;exact h⟩
theorem zGd {s:St} (h:Inv s) (hn:s.now<=maxT) (n:Int):Inv (zAc s n):=by
 obtain ⟨lo,hlo,h1,h2,he⟩:=zMx h hn n
 have htx:∀ m t,(zAc s n).tx m=some t->s.tx m=some t:=λm t ht=>(zPl ht).2
 have h4:=h.lo
 refine ⟨?_,?_,?_,?_,?_,?_,?_,?_,λm t ht=>h.txok m t (htx m t ht)⟩
 ·rw [he];exact zO6 h.good (by unfold maxT at hn;omega)
 ·rw [he];show 1<=lo;omega
 ·rw [he];exact h2
 ·rw [he];exact λx hx=>h.past x ((zG1 lo s.l).subset hx)
 ·rw [he];exact h.giv
 ·obtain ⟨ks,hd,hl⟩:=h.dom
  obtain ⟨js,hj,hl'⟩:=zL2 hd n
  rw [he];exact ⟨js,hj,by omega⟩
 ·intro m t ht
  have:=h.num m t (htx m t ht)
  rw [he];exact this
 ·intro m t ht
  have h3:=h.tim m t (htx m t ht)
  rw [he] at ht ⊢
  exact ⟨hlo.all m t ht,h3.2⟩
theorem zLo {s:St} (h:Inv s) (hn:s.now<=maxT) (n:Int) {T:Int} (hT:(zAc s n).low<=T) (key:ByteArray):val (zAc s n).l key T=val s.l key T:=by
 obtain ⟨lo,hlo,h1,h2,he⟩:=zMx h hn n
 rw [he] at hT ⊢
 exact zPQ h.good hT key
theorem zNE {s:St} (h:Inv s) {ys:List Wri} (hp:pwhy s.l s.low ys (s.now+1)=0):Inv (putS s (putL s.l (s.now+1) ys,s.low,0)) where
 good:=zOW hp
 lo:=h.lo
 lonow:=by show s.low<=s.now+1;have:=h.lonow;omega
 past x hx:=by
  show x.At<=s.now+1
  rcases zGW.1 hx with h1|⟨w,_,rfl⟩
  ·have:=h.past x h1;omega
  ·exact Int.le_refl _
 giv:=h.giv
 dom:=h.dom
 num:=h.num
 tim n t ht:=by
  show s.low<=t.began/\t.began<=s.now+1
  have:=h.tim n t ht;omega
 txok:=h.txok
theorem zPf {s:St} (h:Inv s) {n:Int} {t:Tx} (ht:s.tx n=some t) {ys:List Wri} (hS:zD0 t.wr ys) (hn:s.now+1<=maxT):pwhy s.l s.low ys (s.now+1)=if 4096<s.l.length+ys.length then 3 else 0:=by
 have hk:=h.txok n t ht
 obtain ⟨ks,hd,hl⟩:=hk.few
 have hlen:ys.length=ks.length:=by have:=(zJo hd hk.keyed).2;rw [zFv hS] at this;exact this
 have hw:zGP ys=0:=zE0.2 ⟨by omega,λw hw=>hk.short w.Key w ((hS.2 w).1 hw),hS.keys⟩
 have h1:=h.lo
 have h2:=h.lonow
 unfold maxT at hn
 unfold pwhy
 rw [if_neg (by rw [zI5 h.good];simp),if_neg (by simp [hw]),if_neg (by omega),if_neg (λh3=>by
  rcases h3 with h3|⟨x,h3,h4⟩
  ·omega
  ·have:=h.past x h3;omega)]
theorem zPm {s:St} (h:Inv s) {n:Int} {t:Tx} (ht:s.tx n=some t) {ys:List Wri} (hS:zD0 t.wr ys):ys.length<=256:=by
 have hk:=h.txok n t ht
 obtain ⟨ks,hd,hl⟩:=hk.few
 have hlen:ys.length=ks.length:=by have:=(zJo hd hk.keyed).2;rw [zFv hS] at this;exact this
 omega
theorem Inv.sorts {s:St} (h:Inv s) {n:Int} {t:Tx} (ht:s.tx n=some t):zD0 t.wr (zGp t.wr):=by
 have hk:=h.txok n t ht
 obtain ⟨ks,hd,hl⟩:=hk.few
 exact (zJo hd hk.keyed).1
abbrev ans0:Ans:=⟨0,0,noB,false,[],[],0⟩
abbrev errA (e:Int):Ans:={ans0 with why:=e}
noncomputable def onTx (s:St) (n:Int) (f:Tx->St × Ans):St × Ans:=match s.tx n with
 |none=>(s,errA 11)
 |some t=>f t
noncomputable def zF9 (s:St):St × Ans:=if 16<=cnt s.tx then (s,errA 3) else (zCR s,{ans0 with tx:=s.given+1})
noncomputable def getT (s:St) (n:Int) (key:ByteArray) (t:Tx):St × Ans:=
 if 256<key.size then (s,errA 4) else if 256<=t.reads.length then (s,errA 3)
 else (setTx s n (addR t (zIo key)),{ans0 with val:=(tget s t key).1,is:=(tget s t key).2.1,why:=(tget s t key).2.2})
noncomputable def getD (s:St) (n:Int) (key:ByteArray):St × Ans:=onTx s n (getT s n key)
abbrev zAy (fr to:ByteArray):Spn:=⟨fr,to,false⟩
noncomputable def zHY (s:St) (t:Tx) (key:ByteArray):Option ByteArray:=ovl t.wr (λk=>val s.l k t.began) key
def cut (x:Spn) (f:ByteArray->Option ByteArray) (key:ByteArray):Option ByteArray:=if zBS x key=true then f key else none
noncomputable def zL5 (s:St) (n:Int) (fr to:ByteArray) (t:Tx):St × Ans:=
 if 256<=t.reads.length then (s,errA 3)
 else (setTx s n (addR t (zAy fr to)),{ans0 with pairs:=zIY (cut (zAy fr to) (zHY s t))})
noncomputable def zJJ (s:St) (n:Int) (fr to:ByteArray):St × Ans:=onTx s n (zL5 s n fr to)
open Classical in
noncomputable def zJx (s:St) (n:Int) (x:Wri) (t:Tx):St × Ans:=
 if zBJ x then (s,errA 4) else if t.wr x.Key=none/\256<=cnt t.wr then (s,errA 3) else (setTx s n (putW t x),ans0)
noncomputable def zEo (s:St) (n:Int) (x:Wri):St × Ans:=onTx s n (zJx s n x)
open Classical in
noncomputable def zGJ (s:St) (n:Int) (t:Tx):St × Ans:=
 if s.l.any (conf t)=true then (zAc s n,errA 10)
 else if (∀ k,t.wr k=none) then (zAc s n,{ans0 with time:=s.now})
 else if (vput s.l s.low (zGp t.wr) (s.now+1)).2.2≠0 then (zAc s n,errA (vput s.l s.low (zGp t.wr) (s.now+1)).2.2)
 else (zAc (putS s (vput s.l s.low (zGp t.wr) (s.now+1))) n,{ans0 with done:=zGp t.wr,time:=s.now+1})
noncomputable def zBp (s:St) (n:Int):St × Ans:=onTx s n (zGJ s n)
noncomputable def zQk (s:St) (n:Int):St × Ans:=onTx s n λ_=>(zAc s n,ans0)
noncomputable def doS (s:St) (x:Y5):St × Ans:=
 if x.Kind=1 then zF9 s else if x.Kind=2 then getD s x.Tx x.Key else if x.Kind=3 then zJJ s x.Tx x.Key x.To
 else if x.Kind=4 then zEo s x.Tx ⟨x.Key,x.Val,false⟩ else if x.Kind=5 then zEo s x.Tx ⟨x.Key,noB,true⟩
 else if x.Kind=6 then zBp s x.Tx else if x.Kind=7 then zQk s x.Tx else (s,errA 15)
inductive Eff (s:St) (x:Y5):St->Ans->Prop
 |no (e:Int):e≠0->Eff s x s (errA e)
 |beg:x.Kind=1->cnt s.tx<16->Eff s x (zCR s) {ans0 with tx:=s.given+1}
 |get (t:Tx):x.Kind=2->s.tx x.Tx=some t->x.Key.size<=256->t.reads.length<256->Eff s x (setTx s x.Tx (addR t (zIo x.Key))) {ans0 with val:=(zHY s t x.Key).getD noB,is:=(zHY s t x.Key).isSome}
 |scan (t:Tx):x.Kind=3->s.tx x.Tx=some t->t.reads.length<256->Eff s x (setTx s x.Tx (addR t (zAy x.Key x.To))) {ans0 with pairs:=zIY (cut (zAy x.Key x.To) (zHY s t))}
 |write (t:Tx) (y:Wri):(x.Kind=4/\y=⟨x.Key,x.Val,false⟩∨x.Kind=5/\y=⟨x.Key,noB,true⟩)->s.tx x.Tx=some t->¬ zBJ y->(t.wr y.Key=none->cnt t.wr<256)->Eff s x (setTx s x.Tx (putW t y)) ans0
 |abort (t:Tx):x.Kind=7->s.tx x.Tx=some t->Eff s x (zAc s x.Tx) ans0
 |fail (t:Tx) (e:Int):x.Kind=6->s.tx x.Tx=some t->e≠0->Eff s x (zAc s x.Tx) (errA e)
 |empty (t:Tx):x.Kind=6->s.tx x.Tx=some t->s.l.any (conf t)=false->(∀ k,t.wr k=none)->Eff s x (zAc s x.Tx) {ans0 with time:=s.now}
 |comm (t:Tx) (ys:List Wri):x.Kind=6->s.tx x.Tx=some t->s.l.any (conf t)=false->zD0 t.wr ys->(∃ k,t.wr k≠none)->pwhy s.l s.low ys (s.now+1)=0->Eff s x (zAc (putS s (putL s.l (s.now+1) ys,s.low,0)) x.Tx) {ans0 with done:=ys,time:=s.now+1}
theorem zNv {s:St} (h:Inv s) {n:Int} {t:Tx} (ht:s.tx n=some t) (key:ByteArray):tget s t key=((zHY s t key).getD noB,(zHY s t key).isSome,0):=by
 unfold tget zHY ovl
 cases hw:t.wr key with
 |some x=>
  simp only
  cases hg:x.Gone
  ·simp
  ·simp [(h.txok n t ht).bare key x hw hg]
 |none=>
  simp only
  have h0:vask s.l s.low t.began=0:=zGg.2 ⟨h.good,(h.tim n t ht).1⟩
  unfold vget
  rw [if_neg (by simp [h0]),zPO h.good]
theorem zJ3 {s:St} {x:Y5} {f:Tx->St × Ans} (h:∀ t,s.tx x.Tx=some t->Eff s x (f t).1 (f t).2):Eff s x (onTx s x.Tx f).1 (onTx s x.Tx f).2:=by
 unfold onTx
 cases ht:s.tx x.Tx with
 |none=>exact .no 11 (by decide)
 |some t=>exact h t ht
theorem zKZ {s:St} {x:Y5} {y:Wri} (hk:x.Kind=4/\y=⟨x.Key,x.Val,false⟩∨x.Kind=5/\y=⟨x.Key,noB,true⟩):Eff s x (zEo s x.Tx y).1 (zEo s x.Tx y).2:=by
 refine zJ3 λt ht=>?_
 unfold zJx
 split
 ·exact .no 4 (by decide)
 ·rename_i h1
  split
  ·exact .no 3 (by decide)
  ·rename_i h2
   exact .write t y hk ht h1 λh3=>Nat.not_le.1 λh4=>h2 ⟨h3,h4⟩
theorem zMu {s:St} (h:Inv s) (hn:s.now+1<=maxT) (x:Y5):Eff s x (doS s x).1 (doS s x).2:=by
 unfold doS
 split
 ·rename_i k
  unfold zF9
  split
  ·exact .no 3 (by decide)
  ·exact .beg k (by omega)
 split
 ·rename_i k
  refine zJ3 λt ht=>?_
  unfold getT
  split
  ·exact .no 4 (by decide)
  ·split
   ·exact .no 3 (by decide)
   ·rw [zNv h ht]
    exact .get t k ht (by omega) (by omega)
 split
 ·rename_i k
  refine zJ3 λt ht=>?_
  unfold zL5
  split
  ·exact .no 3 (by decide)
  ·exact .scan t k ht (by omega)
 split
 ·rename_i k;exact zKZ (.inl ⟨k,rfl⟩)
 split
 ·rename_i k;exact zKZ (.inr ⟨k,rfl⟩)
 split
 ·rename_i k
  refine zJ3 λt ht=>?_
  have hS:=h.sorts ht
  unfold zGJ
  split
  ·exact .fail t 10 k ht (by decide)
  ·rename_i hc
   have hc:=Bool.eq_false_iff.2 hc
   split
   ·rename_i he;exact .empty t k ht hc he
   ·rename_i he
    split
    ·rename_i h3;exact .fail t _ k ht h3
    ·rename_i h3
     obtain ⟨h4,h5⟩:=zPV (Classical.not_not.1 h3)
     rw [h5]
     exact .comm t _ k ht hc hS (Classical.not_forall.1 he) h4
 split
 ·rename_i k;exact zJ3 λt ht=>.abort t k ht
 ·exact .no 15 (by decide)
theorem zKu {s s':St} {a:Ans} {x:Y5} (h:Inv s) (hn:s.now+1<=maxT) (e:Eff s x s' a):Inv s':=by
 cases e with
 |no e _=>exact h
 |beg _ hc=>exact zI9 h hc
 |get t _ ht _ hl=>exact zI7 h ht rfl (zNC (h.txok _ t ht) hl _)
 |scan t _ ht hl=>exact zI7 h ht rfl (zNC (h.txok _ t ht) hl _)
 |write t y hk ht hy hl=>exact zI7 h ht rfl (zPe (h.txok _ t ht) hy (λhg=>by rcases hk with ⟨_,e⟩|⟨_,e⟩<;>rw [e] at hg ⊢;cases hg) hl)
 |abort t _ ht=>exact zGd h (by omega) _
 |fail t e _ ht _=>exact zGd h (by omega) _
 |empty t _ ht _ _=>exact zGd h (by omega) _
 |comm t ys _ ht _ _ _ hp=>exact zGd (zNE h hp) hn _
theorem zPW {s s':St} {a:Ans} {x:Y5} (e:Eff s x s' a):s.now<=s'.now/\s'.now<=s.now+1/\s.given<=s'.given/\s'.given<=s.given+1:=by
 have ho:∀ (u:St) n,(zAc u n).now=u.now/\(zAc u n).given=u.given:=λu n=>by unfold zAc zIn;split<;>exact ⟨rfl,rfl⟩
 cases e with
 |no e _=>omega
 |beg _ hc=>show s.now<=s.now/\s.now<=s.now+1/\s.given<=s.given+1/\s.given+1<=s.given+1;omega
 |get t _ ht _ hl=>show s.now<=s.now/\s.now<=s.now+1/\s.given<=s.given/\s.given<=s.given+1;omega
 |scan t _ ht hl=>show s.now<=s.now/\s.now<=s.now+1/\s.given<=s.given/\s.given<=s.given+1;omega
 |write t y hk ht hy hl=>show s.now<=s.now/\s.now<=s.now+1/\s.given<=s.given/\s.given<=s.given+1;omega
 |abort t _ ht=>rw [(ho _ _).1,(ho _ _).2];omega
 |fail t e _ ht _=>rw [(ho _ _).1,(ho _ _).2];omega
 |empty t _ ht _ _=>rw [(ho _ _).1,(ho _ _).2];omega
 |comm t ys _ ht _ _ _ hp=>rw [(ho _ _).1,(ho _ _).2];show s.now<=s.now+1/\s.now+1<=s.now+1/\s.given<=s.given/\s.given<=s.given+1;omega
end Go.Proofs.YtealcoghiaeiiaaGreat.VG
set_option linter.unusedVariables false
namespace Go.Proofs.YtealcoghiaeiiaaGreat.VG
open Go.VB Go.Proofs Go.RowKit
def zCF (w:Wri) (o:List Pai × Bool) (p:Pai):List Pai × Bool:=
 ((if sLt p.Key w.Key=false/\o.2=false then o.1++[⟨w.Key,w.Val⟩] else o.1)++(if p.Key=w.Key then [] else [p]),o.2||!sLt p.Key w.Key)
def end8 (w:Wri) (o:List Pai × Bool):List Pai:=if o.2=true then o.1 else o.1++[⟨w.Key,w.Val⟩]
def zI0 (l:List Pai) (w:Wri):List Pai:=end8 w (l.foldl (zCF w) ([],w.Gone))
def allL (l:List Pai) (ws:List Wri):List Pai:=ws.foldl zI0 l
def zJO (f:ByteArray->Option ByteArray) (w:Wri) (key:ByteArray):Option ByteArray:=if key=w.Key then (if w.Gone=true then none else some w.Val) else f key
def allF (f:ByteArray->Option ByteArray) (ws:List Wri):ByteArray->Option ByteArray:=ws.foldl zJO f
def zHB (w:Wri) (p:Pai):Bool:=decide (p.Key≠w.Key)
theorem zIE (w:Wri):∀ (l out:List Pai),l.foldl (zCF w) (out,true)=(out++l.filter (zHB w),true)
 |[],out=>by simp
 |p::l,out=>by
  rw [List.foldl_cons]
  have:zCF w (out,true) p=(out++(if p.Key=w.Key then [] else [p]),true):=by simp [zCF]
  rw [this,zIE w l]
  by_cases h:p.Key=w.Key
  ·simp [zHB,h]
  ·simp [zHB,h]
theorem zJL (w:Wri):∀ (l out:List Pai),Rise (λp:Pai=>p.Key) l->∃ a b,l=a++b/\(∀ p∈a,sLt p.Key w.Key=true)/\(∀ p∈b,sLt p.Key w.Key=false)/\
  l.foldl (zCF w) (out,false)=(if b=[] then (out++a,false) else (out++a++[⟨w.Key,w.Val⟩]++b.filter (zHB w),true))
 |[],out,_=>⟨[],[],by simp⟩
 |p::l,out,h=>by
  obtain ⟨h1,h2⟩:=List.pairwise_cons.1 h
  rw [List.foldl_cons]
  by_cases c:sLt p.Key w.Key=true
  ·have hne:p.Key≠w.Key:=λe=>by rw [e] at c;exact Zl _ c
   have:zCF w (out,false) p=(out++[p],false):=by simp [zCF,c,hne]
   rw [this]
   obtain ⟨a,b,e,ha,hb,hf⟩:=zJL w l (out++[p]) h2
   refine ⟨p::a,b,by rw [e];rfl,λq hq=>?_,hb,?_⟩
   ·rcases List.mem_cons.1 hq with e|e
    ·rw [e];exact c
    ·exact ha q e
   ·rw [hf];simp
  ·have c':sLt p.Key w.Key=false:=Bool.eq_false_iff.2 c
   have:zCF w (out,false) p=(out++[⟨w.Key,w.Val⟩]++(if p.Key=w.Key then [] else [p]),true):=by simp [zCF,c']
   rw [this,zIE]
   refine ⟨[],p::l,rfl,by simp,λq hq=>?_,?_⟩
   ·rcases List.mem_cons.1 hq with e|e
    ·rw [e];exact c'
    ·cases hq':sLt q.Key w.Key with
     |false=>rfl
     |true=>exact absurd (zG2 (h1 q e) hq') c
   ·by_cases h:p.Key=w.Key
    ·simp [zHB,h]
    ·simp [zHB,h]
theorem zMc {f:ByteArray->Option ByteArray} {l:List Pai} (h:zAh f l) (w:Wri):zAh (zJO f w) (zI0 l w):=by
 obtain ⟨hr,hm⟩:=h
 unfold zI0
 cases hg:w.Gone with
 |true=>
  rw [zIE]
  simp only [end8,List.nil_append,if_true]
  refine ⟨hr.sublist List.filter_sublist,λp=>?_⟩
  rw [List.mem_filter,hm]
  unfold zJO zHB
  by_cases hk:p.Key=w.Key
  ·simp [hk,hg]
  ·simp [hk]
 |false=>
  obtain ⟨a,b,e,ha,hb,hf⟩:=zJL w l [] hr
  rw [hf]
  have hmem:∀ p,p∈end8 w (if b=[] then ([]++a,false) else ([]++a++[⟨w.Key,w.Val⟩]++b.filter (zHB w),true))↔p∈a∨p=⟨w.Key,w.Val⟩∨(p∈b/\p.Key≠w.Key):=λp=>by
   split
   ·rename_i hb0;subst hb0;simp [end8]
   ·simp [end8,zHB]
  have hrise:end8 w (if b=[] then ([]++a,false) else ([]++a++[⟨w.Key,w.Val⟩]++b.filter (zHB w),true))=a++[⟨w.Key,w.Val⟩]++b.filter (zHB w):=by
   split
   ·rename_i hb0;subst hb0;simp [end8]
   ·simp [end8]
  rw [e] at hr
  obtain ⟨r1,r2,r3⟩:=List.pairwise_append.1 hr
  refine ⟨?_,λp=>?_⟩
  ·rw [hrise]
   refine List.pairwise_append.2 ⟨List.pairwise_append.2 ⟨r1,by simp,λx hx y hy=>?_⟩,r2.sublist List.filter_sublist,λx hx y hy=>?_⟩
   ·simp at hy;subst hy;exact ha x hx
   ·obtain ⟨hy1,hy2⟩:=List.mem_filter.1 hy
    rcases List.mem_append.1 hx with hx|hx
    ·exact r3 x hx y hy1
    ·simp at hx;subst hx
     exact zD4 (by rw [hb y hy1];decide) (by simpa [zHB] using hy2)
  ·rw [hmem]
   have hin:∀ q:Pai,(q∈a∨q∈b)↔f q.Key=some q.Val:=λq=>by rw [← hm,e,List.mem_append]
   unfold zJO
   by_cases hk:p.Key=w.Key
   ·rw [if_pos hk,if_neg (by rw [hg];decide)]
    constructor
    ·rintro (h1|h1|h1)
     ·have:=ha p h1;rw [hk] at this;exact absurd this (Zl _)
     ·rw [h1]
     ·exact absurd hk h1.2
    ·intro h1
     right;left
     obtain ⟨pk,pv⟩:=p
     simp at hk h1;subst hk;subst h1;rfl
   ·rw [if_neg hk,← hin]
    constructor
    ·rintro (h1|h1|h1)
     ·exact .inl h1
     ·rw [h1] at hk;exact absurd rfl hk
     ·exact .inr h1.1
    ·rintro (h1|h1)
     ·exact .inl h1
     ·exact .inr (.inr ⟨h1,hk⟩)
theorem zKc:∀ (ws:List Wri) {f:ByteArray->Option ByteArray} {l:List Pai},zAh f l->zAh (allF f ws) (allL l ws)
 |[],_,_,h=>h
 |w::ws,_,_,h=>zKc ws (zMc h w)
theorem zJ7:∀ (ws:List Wri) (f:ByteArray->Option ByteArray) (key:ByteArray),(∀ w∈ws,w.Key≠key)->allF f ws key=f key
 |[],_,_,_=>rfl
 |w::ws,f,key,h=>by
  show allF (zJO f w) ws key=_
  rw [zJ7 ws _ key λx hx=>h x (by simp [hx])]
  unfold zJO;rw [if_neg λe=>h w (by simp) e.symm]
theorem zMq:∀ (ws:List Wri) (f:ByteArray->Option ByteArray) (w:Wri),(zDP ws).Nodup->w∈ws->allF f ws w.Key=if w.Gone=true then none else some w.Val
 |[],_,_,_,h=>by simp at h
 |x::ws,f,w,hn,h=>by
  have hn':x.Key∉zDP ws/\(zDP ws).Nodup:=List.nodup_cons.1 hn
  show allF (zJO f x) ws w.Key=_
  rcases List.mem_cons.1 h with e|e
  ·subst e
   rw [zJ7 ws _ _ λy hy e=>hn'.1 (by rw [← e];exact List.mem_map.2 ⟨y,hy,rfl⟩)]
   unfold zJO;rw [if_pos rfl]
  ·exact zMq ws _ w hn'.2 e
theorem zO0 {wr:ByteArray->Option Wri} {ws:List Wri} (h:zD0 wr ws) (hk:∀ k x,wr k=some x->x.Key=k) (f:ByteArray->Option ByteArray):allF f ws=ovl wr f:=by
 funext key
 unfold ovl
 cases hw:wr key with
 |some x=>
  have hxk:=hk key x hw
  have hx:x∈ws:=(h.2 x).2 (by rw [hxk];exact hw)
  rw [← hxk];exact zMq ws f x h.keys hx
 |none=>
  exact zJ7 ws f key λw hw' e=>by
   have:=(h.2 w).1 hw';rw [e,hw] at this;cases this
theorem zNs (l:List Pai) (w:Wri):(zI0 l w).length<=l.length+1:=by
 have:∀ (l:List Pai) (o:List Pai × Bool),(l.foldl (zCF w) o).1.length+(if (l.foldl (zCF w) o).2=true then 0 else 1)<=o.1.length+l.length+(if o.2=true then 0 else 1):=by
  intro l
  induction l with
  |nil=>intro o;simp only [List.foldl_nil,List.length_nil,Nat.add_zero];exact zU _
  |cons p l ih=>
   intro o
   rw [List.foldl_cons]
   refine ze (ih _) ?_
   obtain ⟨o1,o2⟩:=o
   cases hs:sLt p.Key w.Key<;>cases o2<;>simp [zCF,hs]<;>split<;>simp<;>omega
 have h:=this l ([],w.Gone)
 unfold zI0 end8
 simp only [List.length_nil,Nat.zero_add] at h
 split
 ·rename_i h1;rw [if_pos h1] at h;split at h<;>omega
 ·rename_i h1;rw [if_neg h1] at h;rw [zy,List.length_singleton];split at h<;>omega
theorem zPK (key:ByteArray):zBS (zAy noB noB) key=true:=by
 unfold zBS
 simp only [Bool.false_eq_true,if_false,decide_true,Bool.true_or,Bool.and_true,Bool.not_eq_true']
 cases h:sLt key noB with
 |false=>rfl
 |true=>exact absurd h (by rw [zJW];simp)
theorem zMt (f:ByteArray->Option ByteArray):cut (zAy noB noB) f=f:=by
 funext key;unfold cut;rw [if_pos (zPK key)]
theorem zLb (fr to key:ByteArray):zGH fr to key↔zBS (zAy fr to) key=false:=by
 unfold zGH zBS
 simp only [Bool.false_eq_true,if_false]
 cases h1:sLt key fr<;>cases h2:sLt key to<;>by_cases h3:to=noB<;>simp [h3]
end Go.Proofs.YtealcoghiaeiiaaGreat.VG
set_option linter.unusedVariables false
set_option linter.unusedSimpArgs false
namespace Go.Proofs.YtealcoghiaeiiaaGreat.VG
open Go.VB Go.Proofs
def zAG (x13:Sl) (Kl3:Sl->World->Prop) (v:Value) (x16:Option Addr) (x81:Bool) (w:World):Prop:=
 (x81=true->(opE zA zC (zO 34 (.pointer x16) 0) w (λx83 w=>opE zA zY (zD 9 (.pointer x83)) w (λx84 w=>opE zA zC (zO 34 (.pointer x16) 1) w (λx85 w=>opE zA zY (zD 9 (.pointer x85)) w (λx86 w=>opE zA zL.v (QC 66 [(0,(.string x84)),(1,(.string x86))].toArray) w (λx87 w=>opE zA Sl.v (zc 22 1 [(0,(zL.v x87))].toArray) w (λx88 w=>opE zA Sl.v (Builtin.append_ #[22,22] 22 [(Sl.v x13),(Sl.v x88)].toArray) w (λx89 w=>Kl3 x89 w)))))))))/\(x81=false->(Kl3 x13 w))
def zBf (Ret:Sl->Int->World->Prop) (x12:Option Addr) (x68:Option Addr) (x13:Sl) (w:World) (Kl3:Sl->World->Prop):Prop:=
 opE zA (zJZ id id) (Instr.next (.pointer x68) false 0) w (λr_5 w=>(r_5=none->(Cl zA 46 [(Sl.v x13),(.func (.func 47) #[] #[])].toArray w (λe w=>e=.returned (.tuple [].toArray)/\(Ret x13 0 w))))/\(∀ k v,r_5=some (k,v)->(opE zA (λp:Value × Value=>.tuple [p.1,p.2].toArray) (Instr.entry (.pointer x68)) w (λx71 w=>opE zA zC (zk 34 true (.tuple #[])) w (λx16 w=>opU zA (zK 34 (.pointer x16) x71.2) w (λw=>opE zA zC (zO 34 (.pointer x16) 2) w (λx73 w=>opE zA Qq (zD 4 (.pointer x73)) w (λx74 w=>((!x74)=true->(opE zA z8.v (zD 103 (.pointer x12)) w (λx77 w=>opE zA zC (zO 34 (.pointer x16) 0) w (λx78 w=>opE zA zY (zD 9 (.pointer x78)) w (λx79 w=>Cl zA 45 [(z8.v x77),(.string x79)].toArray w (λe w=>∃ (r_6:Bool),e=.returned (.bool r_6)/\(zAG x13 Kl3 v x16 r_6 w)))))))/\((!x74)=false->(zAG x13 Kl3 v x16 false w))))))))))
def zEr (x0:Option Addr) (x1:Int) (x2:ByteArray) (x3:ByteArray) (w:World) (Ret:Sl->Int->World->Prop):Prop:=
 Cl zA 36 [(.pointer x0),(.int .i64 x1)].toArray w (λe w=>∃ (r:Option Addr) (r_1:Int),e=.returned (.tuple [(.pointer r),(.int .i64 r_1)].toArray)/\(opE zA zC (zk 88 true (.tuple #[])) w (λx10 w=>opU zA (zK 88 (.pointer x10) (.pointer r)) w (λw=>((r_1≠0)->(Ret Sl.none r_1 w))/\(¬ (r_1≠0)->(opE zA zC (zD 88 (.pointer x10)) w (λx28 w=>QS (.pointer x28)/\(opE zA zC (zO 92 (.pointer x28) 1) w (λx30 w=>opE zA Sl.v (zD 90 (.pointer x30)) w (λx31 w=>((256<=(x31.len:Int))->(Ret Sl.none 3 w))/\(¬ (256<=(x31.len:Int))->(opE zA z8.v (QC 103 [(0,(.string x2)),(1,(.string x3))].toArray) w (λx36 w=>opE zA zC (zk 103 true (.tuple #[])) w (λx12 w=>opU zA (zK 103 (.pointer x12) (z8.v x36)) w (λw=>regC w (λC1 w=>opC C1 zA zC (zD 88 (.pointer x10)) (λx37=>opC C1 zA zC (zD 88 (.pointer x10)) (λx38=>QS (.pointer x38)/\(opC C1 zA zC (zO 92 (.pointer x38) 1) (λx40=>opC C1 zA Sl.v (zD 90 (.pointer x40)) (λx41=>opC C1 zA z8.v (zD 103 (.pointer x12)) (λx42=>opE zA Sl.v (zc 90 1 [(0,(z8.v x42))].toArray) w (λx43 w=>C1 w/\(opE zA Sl.v (Builtin.append_ #[90,90] 90 [(Sl.v x41),(Sl.v x43)].toArray) w (λx44 w=>C1 w/\(QS (.pointer x37)/\(opC C1 zA zC (zO 92 (.pointer x37) 1) (λx46=>opU zA (zK 90 (.pointer x46) (Sl.v x44)) w (λw=>(regC w (λC2 w=>QS (.pointer x0)/\(opC C2 zA zC (zO 87 (.pointer x0) 0) (λx50=>opC C2 zA zP.v (zD 69 (.pointer x50)) (λx51=>opC C2 zA zC (zD 88 (.pointer x10)) (λx54=>QS (.pointer x54)/\(opC C2 zA zC (zO 92 (.pointer x54) 0) (λx56=>opC C2 zA (zV .u64) (zD 37 (.pointer x56)) (λx57=>Cl zA 42 [(zP.v x51),(.string x2),(.string x3),(.int .u64 x57)].toArray w (λe w=>∃ (r_2:Sl) (r_3:Int),e=.returned (.tuple [(Sl.v r_2),(.int .i64 r_3)].toArray)/\(C2 w/\(Cl zA 43 [(Sl.v r_2),(.func (.func 44) [].toArray [(.pointer x10)].toArray)].toArray w (λe w=>∃ (r_4:Sl),e=.returned (Sl.v r_4)/\(opE zA zC (zD 88 (.pointer x10)) w (λx64 w=>QS (.pointer x64)/\(opE zA zC (zO 92 (.pointer x64) 2) w (λx66 w=>opE zA Value.map (zD 89 (.pointer x66)) w (λx67 w=>opE zA zC (Instr.range 89 (.map x67)) w (λx68 w=>∃ (I:Sl->World->Prop) (μ:Sl->World->Nat),I r_4 w/\∀ (x13:Sl) w,I x13 w->zBf Ret x12 x68 x13 w (λx13' w'=>I x13' w'/\μ x13' w'<μ x13 w)))))))))))))))))))))))))))))))))))))))))))))))))
set_option maxRecDepth 100000 in
theorem zH4 (x0:Option Addr) (x1:Int) (x2:ByteArray) (x3:ByteArray) (w:World) (Ret:Sl->Int->World->Prop) (H:zEr x0 x1 x2 x3 w Ret):Cl zA 17 [(.pointer x0),(.int .i64 x1),(.string x2),(.string x3)].toArray w (λe w'=>∃ (r0:Sl) (r1:Int),e=.returned (.tuple [(Sl.v r0),(.int .i64 r1)].toArray)/\Ret r0 r1 w'):=by
 unfold zEr at H
 refine zl 93 (zipE 0 [(.pointer x0),(.int .i64 x1),(.string x2),(.string x3)]) Tryz.func17 rfl rfl (by rfl) rfl ?_
 intro a g
 replace g:Sat [] 93 [(0,(.pointer x0)),(1,(.int .i64 x1)),(2,(.string x2)),(3,(.string x3))] a:=g
 refine zJ (zE (g.as_ rfl λ_ g=>g.as_ rfl λ_ g=>zM (tn (zJ (zE (g.mv rfl λ_ g=>g.mv rfl λ_ g=>g.call (zZ g zND rfl rfl) H λe w H=>?_))))))
 obtain ⟨r,r_1,rfl,H⟩:=H
 refine ⟨_,rfl,λ_ g=>(g.mv rfl λ_ g=>g.pur (za g rfl rfl) λ_ g=>g.pur (za g rfl rfl) λ_ g=>g.op (YW) H λx10 w a H g=>g.opu (zT g rfl rfl) H λw a H g=>g.as_ rfl λ_ g=>zM (tn (zJ (zW (zJ (zE (g.mv rfl λ_ g=>g.pur (zFL g rfl rfl) λ_ g=>g.as_ rfl λ_ g=>zM (tn (zb g rfl (λhc=>?_) (λhc=>?_))))))))))⟩
 ·replace H:=H.1 hc
  exact zJ (zE (g.mv rfl λ_ g=>g.as_ rfl λ_ g=>g.as_ rfl λ_ g=>zM (tn (zg (br (tr (Zu g rfl rfl rfl ⟨_,_,rfl,H⟩)))))))
 ·replace H:=H.2 hc
  refine zJ (zE (g.op (zN g rfl) H λx28 w a H g=>g.pur (zj g rfl H.1) λ_ g=>?_))
  replace H:=H.2
  refine g.op (zS g rfl) H λx30 w a H g=>g.op (zN g rfl) H λx31 w a H g=>g.purR (λw=>ZQ g Tryz.underlying90 rfl) λ_ g=>g.pur (ZT g rfl rfl) λ_ g=>g.as_ rfl λ_ g=>zM (tn (zb g rfl (λhc=>?_) (λhc=>?_)))
  ·replace H:=H.1 hc
   exact zJ (zE (g.as_ rfl λ_ g=>g.as_ rfl λ_ g=>zM (tn (zg (br (tr (Zu g rfl rfl rfl ⟨_,_,rfl,H⟩)))))))
  ·replace H:=H.2 hc
   refine zX (bn (tn (zJ (zE (g.mv rfl λ_ g=>g.mv rfl λ_ g=>g.op (zAg g rfl) H λx36 w a H g=>g.op (YW) H λx12 w a H g=>g.opu (zT g rfl rfl) H λw a H g=>zM (tn (zJ (zNO 10 H 11 (λC1 w hC0 H=>g.ko 0 rfl hC0 (zN g rfl) H λx37 a H g=>g.ko 1 rfl hC0 (zN g rfl) H λx38 a H g=>g.kp 2 rfl hC0 (Q7 (zj g rfl H.1)) λ_ g=>?_)))))))))
   replace H:=H.2
   refine g.ko 3 rfl hC0 (zS g rfl) H λx40 a H g=>g.ko 4 rfl hC0 (zN g rfl) H λx41 a H g=>g.ko 5 rfl hC0 (zN g rfl) H λx42 a H g=>WK.on 6 rfl ?_
   intro K hK
   refine g.wop (Qz g rfl) H λx43 w a H g=>hK _ _ ⟨H.1,?_⟩
   have hC1:=H.1
   replace H:=H.2
   refine WK.on 7 rfl ?_
   intro K hK
   refine g.wop (zBE g rfl) H λx44 w a H g=>hK _ _ ⟨H.1,?_⟩
   have hC2:=H.1
   replace H:=H.2
   refine g.kp 8 rfl hC2 (Q7 (zj g rfl H.1)) λ_ g=>?_
   replace H:=H.2
   refine g.ko 9 rfl hC2 (zS g rfl) H λx46 a H g=>WK.la 10 rfl ?_
   intro K hK
   refine g.wopu (zT g rfl rfl) H λw a H g=>hK _ _ (WK.nil (by kernel_rfl) ((tn (zJ (zNO 15 H 16 (λC2 w hC0 H=>g.kp 0 rfl hC0 (Q7 (zQ g rfl)) λ_ g=>g.kp 1 rfl hC0 (Q7 (zj g rfl H.1)) λ_ g=>?_))))))
   replace H:=H.2
   refine g.ko 2 rfl hC0 (zS g rfl) H λx50 a H g=>g.kp 4 rfl hC0 (Q7 (zQ g rfl)) λ_ g=>g.kp 5 rfl hC0 (Q7 (zQ g rfl)) λ_ g=>g.ko 3 rfl hC0 (zN g rfl) H λx51 a H g=>g.ko 6 rfl hC0 (zN g rfl) H λx54 a H g=>g.kp 7 rfl hC0 (Q7 (zj g rfl H.1)) λ_ g=>?_
   replace H:=H.2
   refine g.ko 8 rfl hC0 (zS g rfl) H λx56 a H g=>g.ko 9 rfl hC0 (zN g rfl) H λx57 a H g=>WK.on 10 rfl ?_
   intro K hK
   refine g.wcall (zZ g zRU rfl rfl) H λe w H=>?_
   obtain ⟨r_2,r_3,rfl,H⟩:=H
   refine ⟨_,rfl,λ_ g=>(hK _ _ ⟨H.1,?_⟩)⟩
   have hC1:=H.1
   replace H:=H.2
   refine g.kp 11 rfl hC1 (Q7 (zQ g rfl)) λ_ g=>g.kp 12 rfl hC1 (Q7 (za g rfl rfl)) λ_ g=>g.kp 13 rfl hC1 (Q7 (za g rfl rfl)) λ_ g=>g.kp 14 rfl hC1 (Q7 (Yt g rfl)) λ_ g=>g.kp 15 rfl hC1 (Q7 (Yt g rfl)) λ_ g=>WK.nil (by kernel_rfl) ((tn (zJ (zE (g.mv rfl λ_ g=>g.pur (zFR g rfl rfl) λ_ g=>g.call (zZ g zQv rfl rfl) H λe w H=>?_)))))
   obtain ⟨r_4,rfl,H⟩:=H
   refine ⟨_,rfl,λ_ g=>(g.as_ rfl λ_ g=>zM (tn (zJ (zJ (zE (g.op (zN g rfl) H λx64 w a H g=>g.pur (zj g rfl H.1) λ_ g=>?_))))))⟩
   replace H:=H.2
   refine g.op (zS g rfl) H λx66 w a H g=>g.op (zN g rfl) H λx67 w a H g=>g.op (zKy g rfl) H λx68 w a H g=>zM (tn (zW ?_))
   obtain ⟨I_l3,μ_l3,h0,hb⟩:=H
   refine yD (ds:=[]) (N:=93) (σ:=Sl) (λs=>[(13,(Sl.v s)),(12,(.pointer x12)),(68,(.pointer x68))]) (λs w=>I_l3 s w) (λs w=>μ_l3 s w) r_4 h0 (g.wk) ?_
   intro x13 w a hI g
   try dsimp only at hI g
   obtain ⟨Kl3,hK_l3⟩:∃ K:Sl->World->Prop,K=(λx13' w'=>I_l3 x13' w'/\μ_l3 x13' w'<μ_l3 x13 w):=⟨_,rfl⟩
   have H:zBf Ret x12 x68 x13 w Kl3:=by rw [hK_l3];exact hb x13 w hI
   clear hb h0 hI
   unfold zBf at H
   refine zJ (zE (g.op (zMi g rfl) H λr_5 w a H g=>?_))
   rcases r_5 with _|⟨k,v⟩
   ·replace H:=H.1 rfl
    refine g.pur (za g rfl rfl) λ_ g=>zM (tn (zJ (zd g rfl (λh=>nomatch h) (λ_=>z5 (te (te (be (tn (zJ (zE (g.mv rfl λ_ g=>g.call (zZ g zRk rfl rfl) H λe w H=>?_)))))))))))
    obtain ⟨rfl,H⟩:=H
    exact ⟨_,rfl,λ_ g=>(zM (tn (zJ (zE (g.mv rfl λ_ g=>g.as_ rfl λ_ g=>g.as_ rfl λ_ g=>zM (tn (zg (Zu g rfl rfl rfl ⟨_,_,rfl,H⟩))))))))⟩
   ·replace H:=H.2 _ _ rfl
    refine g.pur (za g rfl rfl) λ_ g=>zM (tn (zJ (zd g rfl (λ_=>zX (tn (zW (zJ (zE (g.op (zLI g rfl) H λx71 w a H g=>g.pur (za g rfl rfl) λ_ g=>g.op (YW) H λx16 w a H g=>g.opu (zT g rfl rfl) H λw a H g=>zM (tn (zJ (zE (g.op (zS g rfl) H λx73 w a H g=>g.op (zN g rfl) H λx74 w a H g=>g.pur (zAD g rfl) λ_ g=>g.mv rfl λ_ g=>WL.join (ds:=[]) (N:=93) (σ:=Bool) (λs=>[(81,(.bool s)),(12,(.pointer x12)),(13,(Sl.v x13)),(16,(.pointer x16)),(68,(.pointer x68))]) (λs w=>zAG x13 Kl3 v x16 s w) 5 ?_ (λhr4=>?_))))))))))) (λh=>nomatch h))))
    ·intro x81 w a H g
     try dsimp only at H g
     unfold zAG at H
     refine zM (tn (zd g rfl (λhc=>?_) (λhc=>?_)))
     ·replace H:=H.1 hc
      refine zE (g.mv rfl λ_ g=>g.op (zS g rfl) H λx83 w a H g=>g.op (zN g rfl) H λx84 w a H g=>g.op (zS g rfl) H λx85 w a H g=>g.op (zN g rfl) H λx86 w a H g=>g.op (zAg g rfl) H λx87 w a H g=>g.op (Qz g rfl) H λx88 w a H g=>g.op (zBE g rfl) H λx89 w a H g=>g.as_ rfl λ_ g=>?_)
      rw [hK_l3] at H
      exact zM (bn (tn ⟨x89,g.wk,H⟩))
     ·replace H:=H.2 hc
      rw [hK_l3] at H
      exact zX (bn (tn ⟨x13,g.wk,H⟩))
    ·rcases Bool.eq_false_or_eq_true ((!x74)) with hbr4|hbr4
     ·replace H:=H.1 hbr4
      replace g:=g.bool (b:=true) (t:=76) rfl (hbr4)
      refine g.on (by rfl) (by rfl) (g.op (zN g rfl) H λx77 w a H g=>g.on (by rfl) (by rfl) (g.op (zS g rfl) H λx78 w a H g=>g.on (by rfl) (by rfl) (g.op (zN g rfl) H λx79 w a H g=>g.on (by rfl) (by rfl) (g.call (zZ g zP2 rfl rfl) H λe w H=>?_))))
      obtain ⟨r_6,rfl,H⟩:=H
      exact ⟨_,rfl,λ_ g=>(g.pur (zu g rfl rfl) λ_ g=>hr4 r_6 _ _ H (g.wk))⟩
     ·replace H:=H.2 hbr4
      replace g:=g.bool (b:=false) (t:=76) rfl (hbr4)
      exact g.off (by rfl) (by rfl) (by decide) (λ_ g=>g.off (by rfl) (by rfl) (by decide) (λ_ g=>g.off (by rfl) (by rfl) (by decide) (λ_ g=>g.off (by rfl) (by rfl) (by decide) (λ_ g=>g.pur (zv g rfl rfl) λ_ g=>hr4 false _ _ H (g.wk)))))
def zDu (x0:zL) (x1:Option Addr) (w:World) (Ret:Bool->World->Prop):Prop:=
 opE zA zC (Instr.box 66 (zL.v x0)) w (λx2 w=>regC w (λC1 w=>opC C1 zA zC (zO 66 (.pointer x2) 0) (λx11=>opC C1 zA zC (zD 88 (.pointer x1)) (λx7=>QS (.pointer x7)/\(opC C1 zA zC (zO 92 (.pointer x7) 2) (λx9=>opC C1 zA Value.map (zD 89 (.pointer x9)) (λx10=>opC C1 zA zY (zD 9 (.pointer x11)) (λx12=>opC C1 zA (λp:zI × Bool=>.tuple [(zI.v p.1),(.bool p.2)].toArray) (Instr.lookup 89 (.map x10) (.string x12) true) (λx13=>opE zA zC (zk 34 true (.tuple #[])) w (λx4 w=>C1 w/\(opU zA (zK 34 (.pointer x4) (zI.v x13.1)) w (λw=>C1 w/\(Ret x13.2 w)))))))))))))
set_option maxRecDepth 100000 in
theorem zHJ (x0:zL) (x1:Option Addr) (w:World) (Ret:Bool->World->Prop) (H:zDu x0 x1 w Ret):Cl zA 44 [(zL.v x0),(.pointer x1)].toArray w (λe w'=>∃ (r0:Bool),e=.returned (.bool r0)/\Ret r0 w'):=by
 unfold zDu at H
 refine zl 17 (zipE 0 [(zL.v x0),(.pointer x1)]) Tryz.func44 rfl rfl (by rfl) rfl ?_
 intro a g
 replace g:Sat [] 17 [(0,(zL.v x0)),(1,(.pointer x1))] a:=g
 refine zJ (zE (g.op (zBa g rfl) H λx2 w a H g=>g.as_ rfl λ_ g=>zM (tn (zJ (zNO 12 H 13 (λC1 w hC0 H=>g.ko 4 rfl hC0 (zS g rfl) H λx11 a H g=>g.ko 0 rfl hC0 (zN g rfl) H λx7 a H g=>g.kp 1 rfl hC0 (Q7 (zj g rfl H.1)) λ_ g=>?_))))))
 replace H:=H.2
 refine g.ko 2 rfl hC0 (zS g rfl) H λx9 a H g=>g.ko 3 rfl hC0 (zN g rfl) H λx10 a H g=>g.ko 5 rfl hC0 (zN g rfl) H λx12 a H g=>g.ko 6 rfl hC0 (zHc g rfl rfl) H λx13 a H g=>g.kp 7 rfl hC0 (Q7 (zQ g rfl)) λ_ g=>g.kp 8 rfl hC0 (Q7 (za g rfl rfl)) λ_ g=>g.kp 9 rfl hC0 (Q7 (za g rfl rfl)) λ_ g=>WK.on 10 rfl ?_
 intro K hK
 refine g.wop (YW) H λx4 w a H g=>hK _ _ ⟨H.1,?_⟩
 have hC1:=H.1
 replace H:=H.2
 refine WK.on 11 rfl ?_
 intro K hK
 refine g.wopu (zT g rfl rfl) H λw a H g=>hK _ _ ⟨H.1,?_⟩
 have hC2:=H.1
 replace H:=H.2
 exact g.kp 12 rfl hC2 (Q7 (Yt g rfl)) λ_ g=>WK.nil (by kernel_rfl) ((tn (zJ (zE (g.mv rfl λ_ g=>g.as_ rfl λ_ g=>zM (tn (zg (zt g rfl rfl ⟨_,rfl,H⟩))))))))
def zDv (x0:zL) (x1:zL) (w:World) (Ret:Int->World->Prop):Prop:=
 opE zA zC (Instr.box 66 (zL.v x0)) w (λx2 w=>opE zA zC (Instr.box 66 (zL.v x1)) w (λx3 w=>opE zA zC (zO 66 (.pointer x2) 0) w (λx5 w=>opE zA zY (zD 9 (.pointer x5)) w (λx6 w=>opE zA zC (zO 66 (.pointer x3) 0) w (λx7 w=>opE zA zY (zD 9 (.pointer x7)) w (λx8 w=>Cl zA 48 [(.string x6),(.string x8)].toArray w (λe w=>∃ (r:Int),e=.returned (.int .i64 r)/\(Ret r w))))))))
set_option maxRecDepth 100000 in
theorem zHG (x0:zL) (x1:zL) (w:World) (Ret:Int->World->Prop) (H:zDv x0 x1 w Ret):Cl zA 47 [(zL.v x0),(zL.v x1)].toArray w (λe w'=>∃ (r0:Int),e=.returned (.int .i64 r0)/\Ret r0 w'):=by
 unfold zDv at H
 refine zl 10 (zipE 0 [(zL.v x0),(zL.v x1)]) Tryz.func47 rfl rfl (by rfl) rfl ?_
 intro a g
 replace g:Sat [] 10 [(0,(zL.v x0)),(1,(zL.v x1))] a:=g
 refine zJ (zE (g.op (zBa g rfl) H λx2 w a H g=>g.op (zBa g rfl) H λx3 w a H g=>g.as_ rfl λ_ g=>zM (tn (zJ (zE (g.op (zS g rfl) H λx5 w a H g=>g.op (zN g rfl) H λx6 w a H g=>g.op (zS g rfl) H λx7 w a H g=>g.op (zN g rfl) H λx8 w a H g=>g.call (zZ g zOB rfl rfl) H λe w H=>?_))))))
 obtain ⟨r,rfl,H⟩:=H
 exact ⟨_,rfl,λ_ g=>(g.as_ rfl λ_ g=>zM (tn (zg (zt g rfl rfl ⟨_,rfl,H⟩))))⟩
end Go.Proofs.YtealcoghiaeiiaaGreat.VG
set_option linter.unusedVariables false
set_option linter.unusedSimpArgs false
namespace Go.VB
open Go.RowKit
section
variable {P:Program} {w:World} {α:Type} {c:α->List Value} {n e t base:Nat} {s:Sl}
theorem OwnS.cut {xs:List α} (hO:OwnS c n e base w s xs) (hc:∀ x,(c x).length=n) {i:Nat} (hi:i<=xs.length) (hpos:0<xs.length):OwnS c n e base w (s.sub 0 i n) (xs.take i):=by
 obtain ⟨g,cap,cur,rfl,hh,hcap,hm,hsz,htk,hb⟩:=hO.at hpos
 have hsmall:=hO.small
 simp only at hsmall
 have e1:(⟨some ⟨g,0,none⟩,xs.length,cap⟩:Sl).sub 0 i n=⟨some ⟨g,0,none⟩,i,cap⟩:=by
  unfold Sl.sub;simp [show ¬ cap=0 by omega,Addr.add]
 rw [e1]
 refine ⟨by simp;omega,by show i<=_;omega,?_,.inr ⟨g,cap,cur,rfl,hb,hh,by show i<=cap;omega,hm,hsz,?_⟩⟩
 ·rw [zGa hc,List.length_take];show min i xs.length*n=i*n;rw [Nat.min_eq_left hi]
 ·have h2:xs=xs.take i++xs.drop i:=(List.take_append_drop i xs).symm
  have h3:(xs.flatMap c).take (i*n)=(xs.take i).flatMap c:=by
   conv=>lhs;rw [h2,List.flatMap_append]
   have hl:((xs.take i).flatMap c).length=i*n:=by rw [zGa hc,List.length_take,Nat.min_eq_left hi]
   rw [List.take_append,List.take_of_length_le (by omega),hl];simp
  rw [← h3,← htk,List.take_take,Nat.min_eq_left (Nat.mul_le_mul_right _ hi)]
theorem zMM {xs:List α} (hO:OwnS c n e base w s xs) (hc:∀ x,(c x).length=n) (hu:P.underlying t=some (.slice e)) (hs:∀ w,(sizeOf e).run P w=.ok n w)
  {z:Value} (hz:∀ w,(zeroValue e).run P w=.ok z w) (hzn:z.cells.size=n) (hz1:z.cells.toList.all (·.oneCell')=true) (hn:0<n) {i:Nat} (hi:i<xs.length) {ty:TypeId} {k:Sl->World->Prop}
  (H:∀ w',OwnS c n e base w' (s.sub 0 i n) (xs.take i)->w.grownBy w' (Sl.v s).ownBlock->(Sl.v (s.sub 0 i n)).ownBlock=(Sl.v s).ownBlock->k (s.sub 0 i n) w'):
  opE P Sl.v (Instr.sliceAt t (Sl.v s) (some (.int .i64 (i:Int))) none none) w (λy w=>opE P (λ_:Unit=>.tuple #[]) (Builtin.clear_ #[t] ty [Sl.v y].toArray) w (λz w=>opE P Sl.v (Instr.sliceAt t (Sl.v s) none (some (.int .i64 (i:Int))) none) w k)):=by
 obtain ⟨g,cap,cur,rfl,hh,hcap,hm,hsz,htk,hb⟩:=hO.at (by omega)
 have hsmall:=hO.small
 simp only at hsmall
 have e1:(⟨some ⟨g,0,none⟩,xs.length,cap⟩:Sl).sub 0 i n=⟨some ⟨g,0,none⟩,i,cap⟩:=by
  unfold Sl.sub;simp [show ¬ cap=0 by omega,Addr.add]
 refine ⟨_,w,zLv hu hs (by show i<=xs.length;omega),?_⟩
 have e2:(⟨some ⟨g,0,none⟩,xs.length,cap⟩:Sl).sub i xs.length n=⟨some ⟨g,i*n,none⟩,xs.length - i,cap - i⟩:=by
  unfold Sl.sub
  simp only
  rw [if_neg (by omega)]
  simp [add_plain']
 rw [e2]
 obtain ⟨m,hm1⟩:∃ m,xs.length - i=m+1:=⟨xs.length - i - 1,by omega⟩
 let zs:List Value:=(Builtin.zeroCells z.cells (m+1)).toList
 have hzl:zs.length=(m+1)*n:=by show (Builtin.zeroCells z.cells (m+1)).toList.length=_;rw [Array.length_toList,size_zeroCells,hzn]
 have hz2:∀ v∈zs,v.oneCell'=true:=λv hv=>by
  have hv':v∈Builtin.zeroCells z.cells (m+1):=by simpa [zs] using hv
  unfold Builtin.zeroCells at hv'
  obtain ⟨j,hj,rfl⟩:=Array.mem_map.1 hv'
  have hlt:j % z.cells.size<z.cells.size:=Nat.mod_lt _ (by omega)
  rw [getElem!_pos z.cells _ hlt]
  rw [List.all_eq_true] at hz1
  exact hz1 _ (by simp)
 have hin:i*n+zs.length<=cur.size:=by
  rw [hzl,hsz,← Nat.add_mul];exact Nat.mul_le_mul_right _ (by omega)
 have hst:=run_storeCells_at (P:=P) g (i*n) e zs 0 cur w hh (by simpa using hin) hz2
 have hcl:(Builtin.clear_ #[t] ty [Sl.v ⟨some ⟨g,i*n,none⟩,xs.length - i,cap - i⟩].toArray).run P w=.ok (.tuple #[]) (w.setRow g (cur.toList.take (i*n)++zs++cur.toList.drop (i*n+zs.length)).toArray):=by
  have hst':(storeCells ⟨g,i*n,none⟩ (Builtin.zeroCells z.cells (m+1)).toList).run P w=.ok () (w.setRow g (cur.toList.take (i*n)++zs++cur.toList.drop (i*n+zs.length)).toArray):=by simpa using hst
  rw [hm1]
  simp only [Builtin.clear_,Sl.v]
  simp [run_underlying hu,hz w,hst']
 refine ⟨(),_,hcl,?_⟩
 refine ⟨_,_,zL6 hu hs (by show i<=cap;omega),?_⟩
 refine H _ ?_ (zFC w g _) (by rw [e1];rfl)
 rw [e1]
 have h1:=hO.cut hc (i:=i) (by omega) (by omega)
 rw [e1] at h1
 refine ⟨h1.len,h1.small,h1.row.1,.inr ⟨g,cap,_,rfl,hb,zFh hh,by show i<=cap;omega,hm,?_,?_⟩⟩
 ·simp only [List.size_toArray,zy,List.length_take,List.length_drop,Array.length_toList]
  rw [← hsz];omega
 ·rcases h1.row.2 with ⟨h2,_⟩|⟨g',cap',cur',h2,_,h4,_,_,_,h8⟩
  ·cases h2
  ·injection h2 with h2 h3 h5
   injection h2 with h2
   injection h2 with h2
   subst h2
   rw [hh] at h4
   injection h4 with h4
   injection h4 with h4
   subst h4
   rw [← h8]
   show ((cur.toList.take (i*n)++zs++cur.toList.drop (i*n+zs.length))).take (i*n)=cur.toList.take (i*n)
   have hl:(cur.toList.take (i*n)).length=i*n:=by rw [List.length_take,Array.length_toList];omega
   rw [List.append_assoc,List.take_append,List.take_of_length_le (by omega),hl];simp
end
end Go.VB
namespace Go.Proofs.YtealcoghiaeiiaaGreat.VG
open Go.VB Go.VB.Srt Go.Proofs Go.RowKit
abbrev zQ7:zFV zA Q6 ZU 2 zL.cells zL.v:=zFV.agg ZI Yq (λ_=>rfl) (λ_=>rfl) (by decide)
theorem zIl {w:World} {x:Sl} {l:List Pai} (hd:zHn w x l) {fv:Value} {p:Pai->Bool} (hp:zFy fv p l w) {k:Int->World->Prop}
  (H0:l.any p=false->∀ w',Bel w w'->k (-1) w')
  (H1:∀ (n:Nat) d,l[n]?=some d->p d=true->(l.take n).any p=false->∀ w',Bel w w'->k (n:Int) w'):
  Cl zA zD1 [Sl.v x,fv].toArray w (λe w'=>∃ r0:Int,e=.returned (.int .i64 r0)/\k r0 w'):=by
 have dbig:=hd.big;have dcap:=hd.cap;have dlen:=hd.len
 refine zBU x _ w _ ?_
 unfold Y6
 refine ⟨λi w1=>∃ n:Nat,i=(n:Int)/\n<=l.length/\Bel w w1/\(l.take n).any p=false,λi _=>(x.len - i).toNat,⟨0,rfl,by omega,Bel.refl _,by simp⟩,?_⟩
 rintro i w1 ⟨n,rfl,hn,hb,hno⟩
 unfold QL
 refine ⟨λhc=>?_,λhc=>?_⟩
 ·obtain ⟨d,hdn⟩:=getE (l:=l) (n:=n) (by omega)
  refine zDR (hd.bel hb) Yq zAK (by omega) (x:=d) (by simpa using hdn) λad hA=>?_
  refine zBI ZI d rfl hA rfl ?_
  refine hp d (List.mem_of_getElem? hdn) w1 _ hb λw2 b2=>⟨λht=>?_,λhf=>?_⟩
  ·exact H1 n d hdn ht hno w2 (hb.trans b2)
  ·rw [wr64 (by omega) (by omega)]
   exact ⟨⟨n+1,by omega,by omega,hb.trans b2,by rw [zIr hdn p hno];exact hf⟩,by dsimp only;omega⟩
 ·obtain rfl:n=l.length:=by omega
  rw [List.take_length] at hno
  exact H0 hno w1 hb
theorem zJN {α:Type} {l:List α} {p:α->Bool} (h:l.any p=false):l.filter (λx=>!p x)=l:=by
 rw [List.filter_eq_self]
 intro x hx
 cases hp:p x with
 |false=>rfl
 |true=>rw [List.any_eq_true.2 ⟨x,hx,hp⟩] at h;cases h
theorem zNg {base:Nat} {w:World} {x:Sl} {l:List Pai} (hO:YJ base w x l) {fv:Value} {p:Pai->Bool} {C:World->Prop} (hw:C w)
  (hC:∀ W W' row,C W->W.grownBy W' row->(∀ q,row=some q->(Sl.v x).ownBlock=some q)->C W') (hp:∀ W,C W->zFy fv p l W) {k:Sl->World->Prop}
  (H:∀ r w',YJ base w' r (l.filter λd=>!p d)->w.grownBy w' (Sl.v x).ownBlock->(∀ q,(Sl.v r).ownBlock=some q->(Sl.v x).ownBlock=some q)->k r w'):
  Cl zA zDz [Sl.v x,fv].toArray w (λe w'=>∃ r0:Sl,e=.returned (Sl.v r0)/\k r0 w'):=by
 have dsm:=hO.small;have dlen:=hO.len
 have hCb:∀ {W W'},C W->Bel W W'->C W':=λh hb=>hC _ _ none h (zf hb none) (λq e=>by cases e)
 refine zDl x _ w k ?_
 unfold Zx
 refine zIl (YJ.rd hO) (hp w hw) (λhno w1 b1=>⟨λ_=>?_,λh=>absurd rfl h⟩) λn d hd hpd hno w1 b1=>⟨λh=>by omega,λ_=>?_⟩
 ·exact H x w1 (by rw [zJN hno];exact hO.bel b1) (zf b1 _) λq h=>h
 have hnl:n<l.length:=(List.getElem?_eq_some_iff.1 hd).1
 obtain ⟨ad0,had,-⟩:=(YJ.rd hO).cells n d hd
 rw [wr64 (by omega) (by omega)]
 refine ⟨λa c W=>∃ (i j:Nat) (ys:List Pai),a=(i:Int)/\c=(j:Int)/\j<=l.length/\i<j/\YJ base W x ys/\ys.length=l.length/\ys.take i=(l.take j).filter (λd=>!p d)/\ys.drop j=l.drop j/\C W/\w.grownBy W (Sl.v x).ownBlock,λ_ c _=>(x.len - c).toNat,
  ⟨n,n+1,l,rfl,by omega,by omega,by omega,hO.bel b1,rfl,?_,rfl,hCb hw b1,zf b1 _⟩,?_⟩
 ·rw [zB9 hd,List.filter_append,zJN hno];simp [hpd]
 rintro a c W ⟨i,j,ys,rfl,rfl,hj,hij,hOW,hyl,htk,hdr,hCW,hg⟩
 unfold YX
 refine ⟨λhc=>?_,λhc=>?_⟩
 ·obtain ⟨e,he⟩:=getE (l:=l) (n:=j) (by omega)
  have hye:ys[j]?=some e:=by
   have h1:=congrArg (λm=>m[0]?) hdr
   simpa [he] using h1
  have hfs:(l.take (j+1)).filter (λd=>!p d)=(l.take j).filter (λd=>!p d)++(if p e=true then [] else [e]):=by
   rw [zB9 he,List.filter_append];cases hpe:p e<;>simp [hpe]
  refine zDR (YJ.rd hOW) Yq zAK (by omega) (x:=e) (by simpa using hye) λad hA=>?_
  refine zBI ZI e rfl hA rfl ?_
  refine zCT zG4 rfl ZI (cs:=e.cells) rfl rfl rfl λB W1 b2 hX hB=>?_
  refine zBI ZI e rfl hX.at rfl ?_
  have hC1:=hCb hCW b2
  refine hp W1 hC1 e (List.mem_of_getElem? he) W1 _ (Bel.refl _) λW2 b3=>⟨λhn=>?_,λhn=>?_⟩
  ·have hpe:p e=false:=by simpa using hn
   have hC2:=hCb hC1 b3
   have hO2:=(hOW.bel b2).bel b3
   refine zBI ZI e rfl (hX.bel b3).at rfl ?_
   have hR2:=YJ.rd hO2
   obtain ⟨y0,hy0⟩:=getE (l:=ys) (n:=i) (by omega)
   have had2:x.a=some ad0:=had
   refine ⟨_,W2,zIg Yq zAK had2 (by omega) (by omega),?_⟩
   obtain ⟨W3,hs3,hO3,hg3⟩:=zI1 zQ7 hO2 (i:=i) (by omega) e had2
   refine ⟨W3,by simpa using hs3,?_⟩
   unfold ym
   rw [wr64 (by omega) (by omega),wr64 (by omega) (by omega)]
   refine ⟨⟨i+1,j+1,ys.set i e,by omega,by omega,by omega,by omega,hO3,by simp [hyl],?_,?_,hC _ _ _ hC2 hg3 (λq h=>h),zR (zR hg (zf (b2.trans b3) _)) hg3⟩,by dsimp only;omega⟩
   ·rw [hfs,← htk,List.take_set,zB9 hy0,if_neg (by simp [hpe])]
    rw [List.set_append_right _ _ (by rw [List.length_take];exact Nat.min_le_left _ _),List.length_take,Nat.min_eq_left (by omega)];simp
   ·rw [List.drop_set_of_lt (by omega),← List.drop_drop,← List.drop_drop,hdr]
  ·have hpe:p e=true:=by simpa using hn
   unfold ym
   rw [wr64 (by omega) (by omega)]
   refine ⟨⟨i,j+1,ys,rfl,by omega,by omega,by omega,(hOW.bel b2).bel b3,hyl,?_,?_,hCb hC1 b3,zR hg (zf (b2.trans b3) _)⟩,by dsimp only;omega⟩
   ·rw [hfs,htk,if_pos hpe,List.append_nil]
   ·rw [← List.drop_drop,← List.drop_drop,hdr]
 ·obtain rfl:j=l.length:=by omega
  rw [List.take_length] at htk
  refine zMM hOW (λ_=>rfl) Yq zAK zLw rfl rfl (by decide) (by omega) λW' hO' hg' hb'=>?_
  exact H _ W' (by rw [← htk];exact hO') (zR hg hg') λq hq=>by rw [← hb'];exact hq
end Go.Proofs.YtealcoghiaeiiaaGreat.VG
set_option linter.unusedVariables false
set_option linter.unusedSimpArgs false
namespace Go.VB
open Go.RowKit
section
variable {P:Program} {w:World} {α:Type} {c:α->List Value} {n e t bytes base:Nat}
theorem zPh {s:Sl} {xs:List α} {x:α} {vx:Value} (hO:OwnS c n e base w s xs) (hc:∀ x,(c x).length=n) (h1:∀ x,(c x).all (·.oneCell')=true) (hn:0<n)
  (hu:P.underlying t=some (.slice e)) {z:Value} (hi:(P.info? e).map (λi=>(i.zero,i.size,i.bytes))=some (some z,n,bytes)) (hz:z.cells.size=n) (hby:0<bytes)
  (hbs:∀ w,(zc t 1 [(0,vx)].toArray).run P w=.ok (Sl.v ⟨some ⟨w.heap.size,0,none⟩,1,1⟩) (w.alloc (.cells (c x).toArray e)))
  (hbw:base<=w.heap.size) (room:(xs.length+1)*bytes<=140737488355328) {J:World->Prop} (hJ:∀ w',Bel w w'->J w') {k:Sl->World->Prop} {ty:TypeId}
  (H:∀ s' w',OwnS c n e base w' s' (xs++[x])->w.grownBy w' (Sl.v s).ownBlock->(∀ q,(Sl.v s').ownBlock=some q->(Sl.v s).ownBlock=some q∨w.heap.size<=q)->k s' w'):
  opE P Sl.v (zc t 1 [(0,vx)].toArray) w (λy w=>J w/\opE P Sl.v (Builtin.append_ #[t,t] ty [Sl.v s,Sl.v y].toArray) w k):=by
 obtain ⟨y,w1,hr,h2⟩:=zLM (k:=k) (ty:=ty) hO hc h1 hn hu hi hz hby hbs hbw room H
 refine ⟨y,w1,hr,hJ w1 ?_,h2⟩
 have:=(hbs w).symm.trans hr
 injection this with _ e1
 rw [← e1];exact Bel.alloc _ _
end
end Go.VB
namespace Go.Proofs.YtealcoghiaeiiaaGreat.VG
open Go.VB Go.VB.Srt Go.Proofs Go.RowKit
theorem zKU {l:List Ver} {key:ByteArray}:∀ (i:Nat) (x:Ver),l[i]?=some x->x.Key=key->∃ j y,l[j]?=some y/\y.Key=key/\∀ m z,j=m+1->l[m]?=some z->z.Key≠key
 |0,x,h,hk=>⟨0,x,h,hk,λm z e=>by omega⟩
 |i+1,x,h,hk=>by
  obtain ⟨y,hy⟩:=getV (l:=l) (n:=i) (by have:=(List.getElem?_eq_some_iff.1 h).1;omega)
  by_cases hyk:y.Key=key
  ·exact zKU i y hy hyk
  ·exact ⟨i+1,x,h,hk,λm z e hz=>by
    obtain rfl:m=i:=by omega
    rw [hy] at hz;cases hz;exact hyk⟩
theorem zMy {fr to key:ByteArray} {l:List Ver} {T:Int} {p:Pai}:p∈one fr to key (sees l key T)↔p.Key=key/\cut (zAy fr to) (λk=>val l k T) key=some p.Val:=by
 have h0:=zLb fr to key
 show p∈one fr to key (sees l key T)↔p.Key=key/\(if zBS (zAy fr to) key=true then val l key T else none)=some p.Val
 unfold one
 by_cases ho:zGH fr to key
 ·rw [if_pos ho,if_neg (by rw [h0.1 ho];decide)];simp
 ·have hs:zBS (zAy fr to) key=true:=by
   cases h:zBS (zAy fr to) key with
   |true=>rfl
   |false=>exact absurd (h0.2 h) ho
  rw [if_neg ho,if_pos hs]
  unfold val
  cases hse:sees l key T with
  |none=>simp
  |some x=>
   simp only
   cases hg:x.Gone
   ·simp only [Bool.false_eq_true,if_false,List.mem_singleton,Option.some.injEq]
    constructor
    ·rintro rfl;exact ⟨rfl,rfl⟩
    ·rintro ⟨h1,h2⟩;obtain ⟨a,b⟩:=p;simp at h1 h2;rw [h1,h2]
   ·simp
theorem zJH {l:List Ver} (hs:l.Pairwise vlt) (fr to:ByteArray) (T:Int):zAh (cut (zAy fr to) λk=>val l k T) (zCQ l fr to T l.length):=by
 have hp:∀ i p,p∈pick l fr to T i->∃ x,l[i]?=some x/\(∀ j y,i=j+1->l[j]?=some y->y.Key≠x.Key)/\p.Key=x.Key/\cut (zAy fr to) (λk=>val l k T) p.Key=some p.Val:=λi p hp=>by
  unfold pick at hp
  cases hx:l[i]? with
  |none=>rw [hx] at hp;cases hp
  |some x=>
   rw [hx] at hp
   simp only at hp
   split at hp
   ·cases hp
   ·rename_i hn
    obtain ⟨h1,h2⟩:=zMy.1 hp
    exact ⟨x,rfl,λj y e hy hk=>hn ⟨j,y,e,hy,hk⟩,h1,by rw [h1];exact h2⟩
 refine ⟨?_,λp=>?_⟩
 ·unfold zCQ
  rw [Rise,List.pairwise_flatMap]
  refine ⟨λi _=>?_,?_⟩
  ·have:=zLU l fr to T i
   match pick l fr to T i,this with
   |[],_=>simp
   |[a],_=>simp
  ·refine List.pairwise_lt_range.imp λ{i j} hij p hpi q hqj=>?_
   obtain ⟨x,hx,hx1,hx2,_⟩:=hp i p hpi
   obtain ⟨y,hy,hy1,hy2,_⟩:=hp j q hqj
   rw [hx2,hy2]
   refine zMK hs hij hx hy λe=>?_
   obtain ⟨z,hz⟩:=getV (l:=l) (n:=j - 1) (by have:=(List.getElem?_eq_some_iff.1 hy).1;omega)
   have hzy:=hy1 (j - 1) z (by omega) hz
   rcases Nat.lt_or_ge i (j - 1) with h|h
   ·have h1:=zKm hs h hx hz
    have h2:=zKm hs (show j - 1<j by omega) hz hy
    rw [← e] at h2 hzy
    exact h1 (zD4 h2 (λe'=>hzy e'.symm))
   ·obtain rfl:i=j - 1:=by omega
    rw [hx] at hz;cases hz;exact hzy e
 ·constructor
  ·intro h
   obtain ⟨i,_,hi⟩:=List.mem_flatMap.1 h
   obtain ⟨x,_,_,_,h4⟩:=hp i p hi
   exact h4
  ·intro h
   have hsome:∃ x,sees l p.Key T=some x:=by
    have h':(if zBS (zAy fr to) p.Key=true then val l p.Key T else none)=some p.Val:=h
    split at h'
    ·unfold val at h'
     cases hse:sees l p.Key T with
     |none=>rw [hse] at h';cases h'
     |some x=>exact ⟨x,rfl⟩
    ·cases h'
   obtain ⟨x,hx⟩:=hsome
   obtain ⟨h1,h2,_⟩:=zGh hx
   obtain ⟨i,hi⟩:=List.getElem?_of_mem h1
   obtain ⟨j,y,hj,hyk,hfirst⟩:=zKU i x hi h2
   refine List.mem_flatMap.2 ⟨j,List.mem_range.2 (List.getElem?_eq_some_iff.1 hj).1,?_⟩
   unfold pick
   rw [hj]
   simp only
   rw [if_neg]
   ·exact zMy.2 ⟨hyk.symm,by rw [hyk];exact h⟩
   ·rintro ⟨m,z,hm,hz,hzk⟩
    exact hfirst m z hm hz (hzk.trans hyk)
def zF3 (x:Spn) (y:Wri):Option Pai:=if y.Gone=false/\zBS x y.Key=true then some ⟨y.Key,y.Val⟩ else none
def kltP (a b:Pai):Bool:=sLt a.Key b.Key
theorem zOA:Srt.SWO kltP where
 irr x:=by
  cases h:kltP x x with
  |false=>rfl
  |true=>exact absurd h (Zl x.Key)
 neg x y z h:=by
  unfold kltP at*
  by_cases h1:sLt x.Key y.Key=true
  ·exact .inl h1
  ·right
   by_cases h2:x.Key=y.Key
   ·rw [← h2];exact h
   ·exact zG2 (zD4 h1 h2) h
 asy x y h:=by
  cases h1:kltP y x with
  |false=>rfl
  |true=>exact absurd h1 (zGo h)
theorem zN6 (a b:Pai) (w:World) {k:Int->World->Prop} (H:∀ w',Bel w w'->k (cmpS a.Key b.Key) w'):Cl zA zDN [zL.v a,zL.v b].toArray w (λe w'=>∃ r0:Int,e=.returned (.int .i64 r0)/\k r0 w'):=by
 refine zHG a b w k ?_
 unfold zDv
 refine zA7 (cs:=a.cells) rfl λB w1 b1 hA _=>?_
 refine zA7 (cs:=b.cells) rfl λC w2 b2 hB _=>?_
 refine yy Z2 zn (hA.bel b2).at a.Key rfl ?_
 refine yy Z2 zn hB.at b.Key rfl ?_
 exact zHb a.Key b.Key w2 (H w2 (b1.trans b2))
theorem zMe:SoCmpFunc_api_Pair.Cmps (.func (.func zDN) #[] #[]) kltP:=λw x y=>
 ⟨cmpS x.Key y.Key,⟨zDN,[],[],rfl,zRp,λw' _=>(zN6 x y w' (k:=λr W=>r=cmpS x.Key y.Key/\Bel w' W) λW hb=>⟨rfl,hb⟩).mono λe W ⟨r,he,hr,hb⟩=>⟨by rw [he,hr],hb⟩⟩,by rw [zK2];exact Iff.rfl⟩
theorem zO5 (p:Pai) {w:World} {B tb wb:Nat} {rs:Sl} {t:Tx} (hB:Row w B [.pointer (ptrA tb)] zEx) (hT:Row w tb [.int .u64 t.began,Sl.v rs,.map (some wb)] zA5) (hM:Zr zY zI.v w wb t.wr)
  {k:Bool->World->Prop} (H:∀ w',Bel w w'->k (t.wr p.Key).isSome w'):Cl zA zFO [zL.v p,.pointer (ptrA B)].toArray w (λe w'=>∃ r0:Bool,e=.returned (.bool r0)/\k r0 w'):=by
 refine zHJ p (ptrA B) w k ?_
 unfold zDu
 refine zA7 (cs:=p.cells) rfl λX w1 b1 hX _=>?_
 refine ⟨Bel w1,λu bu=>⟨bu,?_⟩⟩
 refine zFX Z2 ?_
 refine zCy zBK (ptrA tb) (λW hW=>((hB.bel b1).bel hW).cell) ⟨trivial,?_⟩
 refine zFX zAF ?_
 refine zCy QZ (some wb) (λW hW=>((hT.bel b1).bel hW).at.fld rfl) ?_
 refine zCy zn p.Key (λW hW=>(hX.bel hW).at.fld rfl) ?_
 refine zLx (z:=zLu) (λW hW=>(hM.bel b1).bel hW) zH2 YR zGs p.Key ?_
 refine zFJ zAl λC w2 b2 hZ hC=>?_
 refine ⟨bu.trans b2,?_⟩
 refine zIC y6 hZ rfl rfl rfl λw3 hZ3 g3=>?_
 have b13:Bel w1 w3:=(bu.trans b2).grown g3 λr hr=>by cases hr;have:=bu.le;omega
 exact ⟨b13,H w3 (b1.trans b13)⟩
theorem zNj {s:St} (hI:Inv s) {n:Int} {t:Tx} (ht:s.tx n=some t) (fr to:ByteArray) {ks:List ByteArray} (hd:Doms t.wr ks) {ys:List Pai}
  (hp:ys.Perm ((zCQ s.l fr to t.began s.l.length).filter (λd=>!(t.wr d.Key).isSome)++(ks.filterMap t.wr).filterMap (zF3 (zAy fr to)))) (hl:ys.Pairwise (λx y=>Le kltP x y)):
  zAh (cut (zAy fr to) (zHY s t)) ys:=by
 have hk:=(hI.txok n t ht).keyed
 obtain ⟨s1,s2⟩:=zJH hI.good.sorted fr to t.began
 generalize zCQ s.l fr to t.began s.l.length=L at hp s1 s2
 have m2:∀ p,p∈(ks.filterMap t.wr).filterMap (zF3 (zAy fr to))↔∃ x,t.wr p.Key=some x/\x.Gone=false/\zBS (zAy fr to) p.Key=true/\x.Val=p.Val:=λp=>by
  rw [List.mem_filterMap]
  constructor
  ·rintro ⟨x,hx,hpx⟩
   obtain ⟨key,_,hkx⟩:=List.mem_filterMap.1 hx
   unfold zF3 at hpx
   split at hpx
   ·rename_i h;cases hpx
    have:=hk _ _ hkx
    subst this
    exact ⟨x,hkx,h.1,h.2,rfl⟩
   ·cases hpx
  ·rintro ⟨x,h1,h2,h3,h4⟩
   have hxk:=hk _ _ h1
   refine ⟨x,List.mem_filterMap.2 ⟨p.Key,(hd.2 _).2 ⟨x,h1⟩,h1⟩,?_⟩
   unfold zF3
   rw [if_pos ⟨h2,by rw [hxk];exact h3⟩,hxk,h4]
 have hmem:∀ p,p∈ys↔cut (zAy fr to) (zHY s t) p.Key=some p.Val:=λp=>by
  rw [hp.mem_iff,List.mem_append,List.mem_filter,s2,m2]
  unfold cut zHY ovl
  by_cases hsp:zBS (zAy fr to) p.Key=true
  ·rw [if_pos hsp,if_pos hsp]
   cases hw:t.wr p.Key with
   |none=>simp
   |some x=>
    simp only [Option.isSome_some,Bool.not_true,Bool.false_eq_true,and_false,false_or,Option.some.injEq]
    constructor
    ·rintro ⟨y,rfl,h1,_,h2⟩;rw [if_neg (by rw [h1];decide),h2]
    ·intro h
     split at h
     ·cases h
     ·rename_i hg
      exact ⟨x,rfl,by simpa using hg,hsp,Option.some.inj h⟩
  ·rw [if_neg hsp,if_neg hsp]
   simp only [reduceCtorEq,false_and,false_or,iff_false]
   rintro ⟨x,_,_,h3,_⟩;exact hsp h3
 have hnd:(L.filter (λd=>!(t.wr d.Key).isSome)++(ks.filterMap t.wr).filterMap (zF3 (zAy fr to))).Pairwise (λx y:Pai=>x.Key≠y.Key):=by
  refine List.pairwise_append.2 ⟨(s1.sublist List.filter_sublist).imp λ{a b} h e=>by have h':sLt a.Key b.Key=true:=h;rw [e] at h';exact Zl _ h',?_,λx hx y hy e=>?_⟩
  ·rw [List.pairwise_filterMap,List.pairwise_filterMap]
   refine hd.1.imp λ{a b} hab x hx y hy p hpx q hqy e=>hab ?_
   unfold zF3 at hpx hqy
   split at hpx
   ·split at hqy
    ·cases hpx;cases hqy
     have:=hk a x hx;have:=hk b y hy
     simp_all
    ·cases hqy
   ·cases hpx
  ·obtain ⟨_,h1⟩:=List.mem_filter.1 hx
   obtain ⟨z,h2,_⟩:=(m2 y).1 hy
   rw [e,h2] at h1;simp at h1
 have hnd':ys.Pairwise (λx y=>x.Key≠y.Key):=(hp.pairwise_iff (λ{x y} h=>h.symm)).2 hnd
 refine ⟨(hl.and hnd').imp λ{x y} h12=>?_,hmem⟩
 cases h:sLt x.Key y.Key with
 |true=>rfl
 |false=>
  have h3:sLt y.Key x.Key=true:=zD4 (by rw [h];decide) h12.2
  have h4:sLt y.Key x.Key=false:=h12.1
  rw [h3] at h4;cases h4
end Go.Proofs.YtealcoghiaeiiaaGreat.VG
set_option linter.unusedVariables false
set_option linter.unusedSimpArgs false
namespace Go.Proofs.YtealcoghiaeiiaaGreat.VG
open Go.VB Go.VB.Srt Go.Proofs Go.RowKit
theorem zPd {ρ:Own} {w:World} {b:Nat} {s:St} (h:Mgr ρ w b s) (hI:Inv s) (n:Int) (fr to:ByteArray) {k:Sl->Int->World->Prop}
  (H0:s.tx n=none->∀ w',Bel w w'->k Sl.none 11 w')
  (H1:∀ t,s.tx n=some t->256<=t.reads.length->∀ w',Bel w w'->k Sl.none 3 w')
  (H2:∀ t r ys ρ' w',s.tx n=some t->t.reads.length<256->zAh (cut (zAy fr to) (zHY s t)) ys->YJ w.heap.size w' r ys->(∀ q,(Sl.v r).ownBlock=some q->ρ' q=none)->Mgr ρ' w' b (setTx s n (addR t (zAy fr to)))->Ext ρ w ρ' w'->k r 0 w'):
  Cl zA zFr [.pointer (ptrA b),.int .i64 n,.string fr,.string to].toArray w (λe w'=>∃ (r0:Sl) (r1:Int),e=.returned (.tuple [Sl.v r0,.int .i64 r1].toArray)/\k r0 r1 w'):=by
 obtain ⟨vs,mb,g,m⟩:=h
 refine zH4 (ptrA b) n fr to w k ?_
 unfold zEr
 refine zNJ m n (λht=>?_) λt ht=>?_
 ·refine zFJ zId λB w1 b1 hB hB0=>?_
  refine zHV zBK hB rfl rfl λw2 hB2 g2=>?_
  have b2:Bel w w2:=b1.grown g2 λr hr=>by cases hr;exact hB0
  exact ⟨λ_=>H0 ht w2 b2,λh=>absurd (by decide) h⟩
 refine zFJ zId λX w1 b1 hX hX0=>?_
 refine zHV zBK hX rfl rfl λw2 hX2 g2=>?_
 have b2:Bel w w2:=b1.grown g2 λr hr=>by cases hr;exact hX0
 refine ⟨λh=>absurd rfl h,λ_=>?_⟩
 have m2:=m.bel b2
 have mt2:=m2.tx n t ht
 have hrl:=mt2.rd.len
 refine zAS zBK (ptrA (g n).tb) hX2.cell ⟨trivial,?_⟩
 refine yy zBG zBm mt2.row.at (g n).rs rfl ?_
 refine ⟨λhc=>H1 t ht (by omega) w2 b2,λhc=>?_⟩
 have hroom:t.reads.length<256:=by omega
 refine ⟨zAy fr to,w2,by kernel_rfl,?_⟩
 refine zCT zLP rfl zFB (cs:=(zAy fr to).cells) rfl rfl rfl λY w3 b3 hY hY0=>?_
 refine ⟨λW=>Row W X [.pointer (ptrA (g n).tb)] zEx/\Row W Y (zAy fr to).cells zJG/\Row W (g n).tb [.int .u64 t.began,Sl.v (g n).rs,.map (some (g n).wb)] zA5,λw4 b4=>?_⟩
 have b24:=b3.trans b4
 have b04:=b2.trans b24
 have m4:=m.bel b04
 have mt4:=m4.tx n t ht
 have hX4:=hX2.bel b24
 have hY4:=hY.bel b4
 refine ⟨⟨hX4,hY4,mt4.row⟩,?_⟩
 refine zCy zBK (ptrA (g n).tb) (λW hW=>hW.1.cell) ?_
 refine zCy zBK (ptrA (g n).tb) (λW hW=>hW.1.cell) ⟨trivial,?_⟩
 refine zFX zBG ?_
 refine zCy zBm (g n).rs (λW hW=>hW.2.2.at.fld rfl) ?_
 refine zM7 zFB (zAy fr to) rfl (λW hW=>hW.2.1.at) rfl ?_
 refine zPh mt4.rd (λ_=>rfl) (λ_=>rfl) (by decide) zFx zG6 rfl (by decide) (zHo (zAy fr to)) (Nat.zero_le _) (by omega) (λW hW=>⟨hX4.bel hW,hY4.bel hW,mt4.row.bel hW⟩) λz w5 hO g5 hq=>?_
 have s1:=b1.le;have s2:=b2.le;have s3:=b3.le;have s24:=b24.le;have s04:=b04.le;have s5:=g5.size;have s4:=b4.le;have s12:=g2.size
 have hxl:w.heap.size<=X/\w.heap.size<=Y:=⟨hX0,by omega⟩
 have hrsne:∀ q,w.heap.size<=q->(Sl.v (g n).rs).ownBlock≠some q:=λq hq e=>by have:=m.lt q (by rw [(m.tx n t ht).rrd q e];simp);omega
 have hX5:=hX4.grown g5 (hrsne X hxl.1)
 have hY5:=hY4.grown g5 (hrsne Y hxl.2)
 have hrow5:Row w5 (g n).tb [.int .u64 t.began,Sl.v (g n).rs,.map (some (g n).wb)] zA5:=mt4.row.grown g5 λe=>by
  have:=mt4.rrd _ e;rw [mt4.rtb] at this;cases this
 refine ⟨⟨hX5,hY5,hrow5⟩,trivial,?_⟩
 refine zFX zBG ?_
 refine zHU zBm hrow5 (by cases z with|mk a l c=>cases a<;>rfl) (by simp) (by cases z with|mk a l c=>cases a<;>rfl) λw6 hR6 g6=>?_
 replace hR6:Row w6 (g n).tb [.int .u64 t.began,Sl.v z,.map (some (g n).wb)] zA5:=hR6
 have hzt:(Sl.v z).ownBlock≠some (g n).tb:=OwnS.ne_row hO hrow5 (by decide)
 have hO6:=hO.kept g6 (.inr hzt)
 have htbX:(g n).tb≠X/\(g n).tb≠Y:=by
  have:=m.lt (g n).tb (by rw [(m.tx n t ht).rtb];simp);omega
 have hX6:=hX5.grown g6 (by simpa using htbX.1)
 have hY6:=hY5.grown g6 (by simpa using htbX.2)
 let ρ':Own:=λk=>if (Sl.v z).ownBlock=some k then some (.rb n) else ρ k
 have hρ:∀ k,k<w.heap.size->ρ' k=ρ k:=λk hk=>by
  show (if (Sl.v z).ownBlock=some k then _ else _)=_
  split
  ·rename_i e
   rcases hq k e with h1|h1
   ·exact (mt4.rrd k h1).symm
   ·omega
  ·rfl
 have hs6:=g6.size
 have hρ4:∀ k,k<w4.heap.size->ρ' k=ρ k:=λk hk=>by
  show (if (Sl.v z).ownBlock=some k then _ else _)=_
  split
  ·rename_i e
   rcases hq k e with h1|h1
   ·exact (mt4.rrd k h1).symm
   ·omega
  ·rfl
 have hkeep:∀ k r,ρ k=some r->r≠.tb n->r≠.rb n->w6.heap[k]?=w4.heap[k]?:=λk r hk h1 h2=>by
  have hkl:=m4.lt k (by rw [hk];simp)
  rw [g6.block k (by omega) λe=>by injection e with e;rw [e,mt4.rtb] at hk;cases hk;exact h1 rfl,g5.block k hkl λe=>by
   have:=mt4.rrd k e.symm;rw [hk] at this;cases this;exact h2 rfl]
 have hE46:Ext ρ w4 ρ' w6:=⟨(Out.row (S:=λk=>ρ k≠none) g5 λk hk=>.inl (by show ρ k≠none;rw [mt4.rrd k hk];simp)).trans (Out.row (S:=λk=>ρ k≠none) g6 λk hk=>by cases hk;exact .inl (by show ρ _≠none;rw [mt4.rtb];simp)) λ_ _ h=>h,hρ4⟩
 have hE:Ext ρ w ρ' w6:=(Ext.bel b04).trans hE46
 have m6:zCS ρ' w6 b (setTx s n (addR t (zAy fr to))) vs mb (λm=>if m=n then ⟨(g n).tb,(g n).wb,z⟩ else g m):=by
  refine m4.setTx ht rfl hρ4 (λk hk=>?_) (λk r hk h1 h2 h3=>hkeep k r hk h1 h3) ?_
  ·by_cases e:(Sl.v z).ownBlock=some k
   ·exact hO6.lt e
   ·have:ρ k≠none:=by
     have h1:(if (Sl.v z).ownBlock=some k then some (Role.rb n) else ρ k)≠none:=hk
     rw [if_neg e] at h1;exact h1
    have:=m4.lt k this;omega
  ·exact {
    row:=hR6
    rtb:=(hρ4 _ (m4.lt _ (by rw [mt4.rtb];simp))).trans mt4.rtb
    rd:=hO6
    rrd:=λk hk=>by show (if (Sl.v z).ownBlock=some k then _ else _)=_;rw [if_pos hk]
    wr:=mt4.wr.keep (hkeep _ _ mt4.rwb (by simp) (by simp))
    rwb:=(hρ4 _ (m4.lt _ (by rw [mt4.rwb];simp))).trans mt4.rwb}
 have hM6:Zr zY zI.v w6 (g n).wb t.wr:=mt4.wr.keep (hkeep _ _ mt4.rwb (by simp) (by simp))
 refine ⟨Bel w6,λw7 b7=>⟨b7,trivial,?_⟩⟩
 refine zFX xS ?_
 refine zM7 z7 (cs:=[Sl.v vs,.int .u64 s.low]) ⟨vs,s.low⟩ rfl (λW hW=>(m6.bel hW).versAt) rfl ?_
 refine zCy zBK (ptrA (g n).tb) (λW hW=>(hX6.bel hW).cell) ⟨trivial,?_⟩
 refine zFX zEC ?_
 refine zCy yK t.began (λW hW=>(hR6.bel hW).at.fld rfl) ?_
 have hvs:zKY s.l s.low fr to t.began=(zCQ s.l fr to t.began s.l.length,0):=by
  unfold zKY
  rw [if_neg (by rw [zGg.2 ⟨hI.good,(hI.tim n t ht).1⟩];decide)]
 refine zOS (x0:=⟨vs,s.low⟩) (m6.bel b7).vers fr to t.began λr2 w8 base hb8 hbw8 hO8 b8=>?_
 replace hO8:YJ base w8 r2 (zKY s.l s.low fr to t.began).1:=hO8
 rw [hvs] at hO8
 replace hO8:YJ base w8 r2 (zCQ s.l fr to t.began s.l.length):=hO8
 have hl4:=hI.good.len
 have hsl:=zIR s.l fr to t.began s.l.length
 have b68:=b7.trans b8
 have s67:=b7.le
 refine ⟨b68,?_⟩
 have hXb:X<w6.heap.size:=hX6.lt
 have hTb:(g n).tb<w6.heap.size:=hR6.lt
 have hMb:(g n).wb<w6.heap.size:=hM6.lt
 refine zNg (p:=λd=>(t.wr d.Key).isSome) (C:=λW=>Row W X [.pointer (ptrA (g n).tb)] zEx/\Row W (g n).tb [.int .u64 t.began,Sl.v z,.map (some (g n).wb)] zA5/\Zr zY zI.v W (g n).wb t.wr) hO8 ⟨hX6.bel b68,hR6.bel b68,hM6.bel b68⟩ ?_ ?_ λr4 w9 hO9 g9 hb9=>?_
 ·rintro W W' row ⟨h1,h2,h3⟩ hg hr
  have hlo:∀ q,row=some q->w6.heap.size<=q:=λq hq=>by have:=hO8.lo (hr q hq);omega
  exact ⟨h1.grown hg λe=>by have:=hlo _ e;omega,h2.grown hg λe=>by have:=hlo _ e;omega,h3.grown hg λe=>by have:=hlo _ e;omega⟩
 ·rintro W ⟨h1,h2,h3⟩
  exact λd _ w' k' hb hk=>.inl ⟨zFO,[],[.pointer (ptrA X)],rfl,zRo,zO5 d (h1.bel hb) (h2.bel hb) (h3.bel hb) hk⟩
 have b69:Bel w6 w9:=b68.grown g9 λq hq=>by have:=hO8.lo hq;omega
 have s69:=b69.le
 refine zAS zBK (ptrA (g n).tb) (hX6.bel b69).cell ⟨trivial,?_⟩
 refine yy zAF QZ (hR6.bel b69).at (some (g n).wb) rfl ?_
 obtain ⟨⟨dom,hd,hdl⟩,hky⟩:Few t/\zM5 t:=⟨(hI.txok n t ht).few,(hI.txok n t ht).keyed⟩
 refine zOG (hM6.bel b69) YR λw10 hi b10=>?_
 have hwb9:(g n).wb<w9.heap.size:=by omega
 have s8:=b8.le;have s9:=g9.size
 have hbase9:base<=w9.heap.size:=by omega
 have hfl:((zCQ s.l fr to t.began s.l.length).filter (λd=>!(t.wr d.Key).isSome)).length<=4096:=ze (List.length_filter_le _ _) (by omega)
 generalize hR:w9.heap.size=R at hi hwb9 hbase9 ⊢
 have s10:=b10.le
 let L0:=(zCQ s.l fr to t.began s.l.length).filter (λd=>!(t.wr d.Key).isSome)
 refine ⟨λx W=>∃ ks,zAz zY zI.v W (g n).wb R t.wr ks/\YJ base W x (L0++(ks.filterMap t.wr).filterMap (zF3 (zAy fr to)))/\Bel w6 W/\R<W.heap.size,λ_ W=>dom.length - zGl W R,⟨[],hi,by show YJ base w10 r4 (L0++[]);rw [List.append_nil];exact hO9.bel b10,b69.trans b10,by obtain ⟨c,sb,hb⟩:=hi.blk;exact (Array.getElem?_eq_some_iff.1 hb).1⟩,?_⟩
 rintro x W ⟨ks,hi1,hO1,hb1,hRW⟩
 unfold zBf
 refine zMY hi1 (by omega) zH0 (λhall=>?_) λy v W2 hy hn hi2 hg=>?_
 ·refine ⟨λ_=>?_,λk v e=>by cases e⟩
  refine SoCmpFunc_api_Pair.sort_ok zOA zMe hO1 λys w3 hp hpw hO2 hg=>?_
  have hdk:Doms t.wr ks:=⟨hi1.nd,λx=>⟨hi1.dom x,λ⟨v,hv⟩=>hall x v hv⟩⟩
  have hbf:Bel w6 w3:=hb1.grown hg λq hq=>by have:=hO1.lo hq;omega
  refine H2 t x ys ρ' w3 ht hroom (zNj hI ht fr to hdk hp hpw) (hO2.low (by omega)) (λq hq=>?_) ⟨_,_,_,m6.bel hbf⟩ (hE.trans (Ext.bel hbf))
  have h1:=hO2.lo hq
  cases hρq:ρ' q with
  |none=>rfl
  |some r0=>have:=m6.lt q (by rw [hρq];simp);omega
 ·refine ⟨λe=>(nomatch e),λk v' e=>?_⟩
  cases e
  have hb2:Bel w6 W2:=hb1.grown hg λr e=>by cases e;omega
  have hcl:(ks++[y]).length<=dom.length:=zFg hi2.nd λz hz=>(hd.2 z).2 (hi2.dom z hz)
  rw [zy,List.length_singleton] at hcl
  have hl1:=hi1.size
  have hO2:YJ base W2 x (L0++(ks.filterMap t.wr).filterMap (zF3 (zAy fr to))):=hO1.notwalk (B:=R) hg λr e=>by
   cases e
   obtain ⟨c,sb,hb⟩:=hi1.blk
   exact ⟨zU _,_,hb,rfl⟩
  refine zHN hi2 hy zH0 ?_
  refine zCT zAl rfl y6 (cs:=v.cells) rfl rfl rfl λC W3 b3 hC _=>?_
  refine yy zBH zDe hC.at v.Gone rfl ?_
  have hi3:=hi2.bel b3
  have hO3:=hO2.bel b3
  have hb3:=hb2.trans b3
  have hg2:=hg.size;have s3:=b3.le
  have hvk:=hky y v hy
  have hfm:(ks++[y]).filterMap t.wr=ks.filterMap t.wr++[v]:=by rw [List.filterMap_append,List.filterMap_cons_some hy];rfl
  have hlen:(L0++(ks.filterMap t.wr).filterMap (zF3 (zAy fr to))).length<=4096+256:=by
   rw [zy]
   have h1:=List.length_filterMap_le (zF3 (zAy fr to)) (ks.filterMap t.wr)
   have h2:=List.length_filterMap_le t.wr ks
   have h3:L0.length<=4096:=hfl
   omega
  have J:∀ (c:Bool) W4,Bel W3 W4->(c=true↔v.Gone=false/\zBS (zAy fr to) v.Key=true)->zAG x (λx13' w'=>(∃ ks,zAz zY zI.v w' (g n).wb R t.wr ks/\YJ base w' x13' (L0++(ks.filterMap t.wr).filterMap (zF3 (zAy fr to)))/\Bel w6 w'/\R<w'.heap.size)/\dom.length - zGl w' R<dom.length - zGl W R) (zI.v v) (ptrA C) c W4:=by
   intro c W4 b4 hc
   unfold zAG
   have hi4:=hi3.bel b4
   have s4:=b4.le
   have hlen4:=hi4.size
   rw [zy,List.length_singleton] at hlen4
   refine ⟨λh1=>?_,λh1=>?_⟩
   ·have hpk:zF3 (zAy fr to) v=some ⟨v.Key,v.Val⟩:=by unfold zF3;rw [if_pos (hc.1 h1)]
    have hC4:=hC.bel b4
    refine yy yj zn hC4.at v.Key rfl ?_
    refine yy zAE zn hC4.at v.Val rfl ?_
    refine ⟨⟨v.Key,v.Val⟩,W4,by kernel_rfl,?_⟩
    refine zJ6 (w0:=w6) (hO3.bel b4) (hb3.trans b4) (by omega) (by omega) (by omega) λx' W5 hO5 hb5 g5=>?_
    have hi5:=zLl hi4 (KeepsWalks.row g5 λr hr=>(hO3.bel b4).isRow hr)
    have hlen5:=hi5.size
    rw [zy,List.length_singleton] at hlen5
    refine ⟨⟨ks++[y],hi5,?_,hb5,by have:=g5.size;omega⟩,by omega⟩
    rw [hfm,List.filterMap_append,List.filterMap_cons_some hpk,← List.append_assoc];exact hO5
   ·have hpk:zF3 (zAy fr to) v=none:=by unfold zF3;rw [if_neg λh2=>by rw [hc.2 h2] at h1;cases h1]
    refine ⟨⟨ks++[y],hi4,?_,hb3.trans b4,by omega⟩,by omega⟩
    rw [hfm,List.filterMap_append,List.filterMap_cons_none hpk,List.filterMap_nil,List.append_nil];exact hO3.bel b4
  refine ⟨λh1=>?_,λh1=>J false W3 (Bel.refl _) ⟨λh=>(nomatch h),λh2=>by rw [h2.1] at h1;cases h1⟩⟩
  have hgf:v.Gone=false:=by simpa using h1
  have hY3:=hY6.bel hb3
  refine zBI zFB (zAy fr to) rfl hY3.at rfl ?_
  refine yy yj zn hC.at v.Key rfl ?_
  exact zMo (zAy fr to) v.Key W3 λW4 b4=>J _ W4 b4 ⟨λh=>⟨hgf,h⟩,λh=>h.2⟩
end Go.Proofs.YtealcoghiaeiiaaGreat.VG
set_option linter.unusedVariables false
set_option linter.unusedSimpArgs false
namespace Go.Proofs.YtealcoghiaeiiaaGreat.VG
open Go.VB Go.Proofs Go.RowKit
theorem zJC {s:St} {n:Int} {f:Tx->St × Ans} (h:s.tx n=none):onTx s n f=(s,errA 11):=by unfold onTx;rw [h]
theorem zB1 {s:St} {n:Int} {f:Tx->St × Ans} {t:Tx} (h:s.tx n=some t):onTx s n f=f t:=by unfold onTx;rw [h]
theorem Ext.new {ρ ρ':Own} {w W w':World} {B:Nat} (h:Ext ρ w ρ' W) (hg:W.grownBy w' (some B)) (hB:w.heap.size<=B):Ext ρ w ρ' w':=
 ⟨h.out.trans (T:=λk=>k=B) (Out.row hg λk hk=>by cases hk;exact .inl rfl) λi hi e=>by omega,h.same⟩
theorem Mgr.other {ρ:Own} {w w':World} {b:Nat} {s:St} {B:Nat} (h:Mgr ρ w b s) (hg:w.grownBy w' (some B)) (hB:ρ B=none):Mgr ρ w' b s:=
 let ⟨vs,mb,g,m⟩:=h
 ⟨vs,mb,g,m.keep hg.size λk hk=>hg.block k (m.lt k hk) λe=>by cases e;exact hk hB⟩
section
variable {ρ:Own} {w:World} {b:Nat} {s:St}
theorem zM8 (h:Mgr ρ w b s) (hI:Inv s) (hg:s.given<4611686018427387904) {k:Int->Int->World->Prop} (H:∀ ρ' w',Mgr ρ' w' b (zF9 s).1->Ext ρ w ρ' w'->k (zF9 s).2.tx (zF9 s).2.why w'):
  Cl zA zFf [.pointer (ptrA b)].toArray w (λe w'=>∃ (r0 r1:Int),e=.returned (.tuple [.int .i64 r0,.int .i64 r1].toArray)/\k r0 r1 w'):=by
 refine zJ5 h hI.giv hg hI.free (λks hd hl=>?_) λks ρ' w' hd hl hM hE=>?_
 ·have e:zF9 s=(s,errA 3):=by unfold zF9;rw [zGu hd,if_pos hl]
  rw [e] at H;exact H ρ w h (Ext.refl _ _)
 ·have e:zF9 s=(zCR s,{ans0 with tx:=s.given+1}):=by unfold zF9;rw [zGu hd,if_neg (by omega)]
  rw [e] at H;exact H ρ' w' hM hE
theorem zQO (h:Mgr ρ w b s) (hI:Inv s) (n:Int) (fr to:ByteArray) {k:Sl->Int->World->Prop}
  (H:∀ r ρ' w',Mgr ρ' w' b (zJJ s n fr to).1->Ext ρ w ρ' w'->YJ w.heap.size w' r (zJJ s n fr to).2.pairs->(∀ q,(Sl.v r).ownBlock=some q->ρ' q=none)->k r (zJJ s n fr to).2.why w'):
  Cl zA zFr [.pointer (ptrA b),.int .i64 n,.string fr,.string to].toArray w (λe w'=>∃ (r0:Sl) (r1:Int),e=.returned (.tuple [Sl.v r0,.int .i64 r1].toArray)/\k r0 r1 w'):=by
 unfold zJJ at H
 refine zPd h hI n fr to (λht w' hb=>?_) (λt ht h1 w' hb=>?_) λt r ys ρ' w' ht h1 hS hO hρ hM hE=>?_
 ·rw [zJC ht] at H;exact H Sl.none ρ w' (h.bel hb) (Ext.bel hb) (OwnS.nil _ _ _ _ _) λq e=>by cases e
 ·rw [zB1 ht] at H;unfold zL5 at H;rw [if_pos h1] at H;exact H Sl.none ρ w' (h.bel hb) (Ext.bel hb) (OwnS.nil _ _ _ _ _) λq e=>by cases e
 ·rw [zB1 ht] at H;unfold zL5 at H;rw [if_neg (by omega),zJy hS] at H;exact H r ρ' w' hM hE hO hρ
theorem zNR (h:Mgr ρ w b s) (n:Int) (x:Wri) {k:Int->World->Prop} (H:∀ ρ' w',Mgr ρ' w' b (zEo s n x).1->Ext ρ w ρ' w'->k (zEo s n x).2.why w'):
  Cl zA zCE [.pointer (ptrA b),.int .i64 n,zI.v x].toArray w (λe w'=>∃ r0:Int,e=.returned (.int .i64 r0)/\k r0 w'):=by
 unfold zEo at H
 refine zJr h n x (λht w' hb=>?_) (λt ht h1 w' hb=>?_) (λt ks ht h1 h2 hd h3 w' hb=>?_) λt w' ht h1 h2 hM hE=>?_
 ·rw [zJC ht] at H;exact H ρ w' (h.bel hb) (Ext.bel hb)
 ·rw [zB1 ht] at H;unfold zJx at H;rw [if_pos h1] at H;exact H ρ w' (h.bel hb) (Ext.bel hb)
 ·rw [zB1 ht] at H;unfold zJx at H;rw [if_neg h1,if_pos ⟨h2,by rw [zGu hd];exact h3⟩] at H;exact H ρ w' (h.bel hb) (Ext.bel hb)
 ·rw [zB1 ht] at H;unfold zJx at H
  rw [if_neg h1,if_neg λh3=>by obtain ⟨ks,hd,hl⟩:=h2 h3.1;have:=h3.2;rw [zGu hd] at this;omega] at H
  exact H ρ w' hM hE
theorem zRe (h:Mgr ρ w b s) (n:Int) (key val:ByteArray) {k:Int->World->Prop} (H:∀ ρ' w',Mgr ρ' w' b (zEo s n ⟨key,val,false⟩).1->Ext ρ w ρ' w'->k (zEo s n ⟨key,val,false⟩).2.why w'):
  Cl zA zF2 [.pointer (ptrA b),.int .i64 n,.string key,.string val].toArray w (λe w'=>∃ r0:Int,e=.returned (.int .i64 r0)/\k r0 w'):=zMF n key val (zNR h n _ H)
theorem zN9 (h:Mgr ρ w b s) (n:Int) (key:ByteArray) {k:Int->World->Prop} (H:∀ ρ' w',Mgr ρ' w' b (zEo s n ⟨key,noB,true⟩).1->Ext ρ w ρ' w'->k (zEo s n ⟨key,noB,true⟩).2.why w'):
  Cl zA zFQ [.pointer (ptrA b),.int .i64 n,.string key].toArray w (λe w'=>∃ r0:Int,e=.returned (.int .i64 r0)/\k r0 w'):=zNy n key (zNR h n _ H)
theorem zOw (h:Mgr ρ w b s) (hI:Inv s) (hn:s.now<4611686018427387904) (n:Int) {k:Sl->Int->Int->World->Prop}
  (H:∀ r ρ' w',Mgr ρ' w' b (zBp s n).1->Ext ρ w ρ' w'->zDj w.heap.size w' r (zBp s n).2.done->(∀ q,(Sl.v r).ownBlock=some q->ρ' q=none)->k r (zBp s n).2.time (zBp s n).2.why w'):
  Cl zA zFP [.pointer (ptrA b),.int .i64 n].toArray w (λe w'=>∃ (r0:Sl) (r1:Int) (r2:Int),e=.returned (.tuple [Sl.v r0,.int .u64 r1,.int .i64 r2].toArray)/\k r0 r1 r2 w'):=by
 unfold zBp at H
 have h0:=hI.lo;have h1:=hI.lonow
 have nob:∀ {w':World},zDj w.heap.size w' Sl.none []:=OwnS.nil _ _ _ _ _
 have nor:∀ {ρ':Own} q,(Sl.v Sl.none).ownBlock=some q->ρ' q=none:=λq e=>by cases e
 refine zI6 h n (λt ht=>⟨(hI.txok n t ht).few,(hI.txok n t ht).keyed⟩) (by omega) hn (λht=>?_) (λt ρ' w' ht hc hM hE=>?_) (λt ρ' w' ht hc he hM hE=>?_) (λt ys ρ' w' ht hc hS he hp hM hE=>?_) λt ys r ρ' w' ht hc hS he hp hM hE hr hq=>?_
 ·rw [zJC ht] at H;exact H Sl.none ρ w h (Ext.refl _ _) nob nor
 ·rw [zB1 ht] at H;unfold zGJ at H;rw [if_pos hc] at H;exact H Sl.none ρ' w' hM hE nob nor
 ·rw [zB1 ht] at H;unfold zGJ at H;rw [if_neg (by simp [hc]),if_pos he] at H;exact H Sl.none ρ' w' hM hE nob nor
 ·rw [zB1 ht] at H;unfold zGJ at H
  rw [if_neg (by simp [hc]),if_neg (λh=>by obtain ⟨x,hx⟩:=he;exact hx (h x)),zFv hS,if_pos hp] at H
  exact H Sl.none ρ' w' hM hE nob nor
 ·rw [zB1 ht] at H;unfold zGJ at H
  rw [if_neg (by simp [hc]),if_neg (λh=>by obtain ⟨x,hx⟩:=he;exact hx (h x)),zFv hS,if_neg (by simp [hp])] at H
  exact H r ρ' w' hM hE hr λq h=>(hq q h).2.2
end
structure zKq (base:Nat) (ρ:Own) (w:World) (y:Zm) (a:Ans):Prop where
 why:y.Why=a.why
 tx:y.Tx=a.tx
 val:y.Val=a.val
 is:y.Is=a.is
 pairs:YJ base w y.Pairs a.pairs
 done:zDj base w y.Done a.done
 time:y.Time=a.time
 rp:∀ q,(Sl.v y.Pairs).ownBlock=some q->ρ q=none
 rd:∀ q,(Sl.v y.Done).ownBlock=some q->ρ q=none
theorem zKq.ans {base:Nat} {ρ:Own} {w:World} {y:Zm} {a:Ans} (h:zKq base ρ w y a):zJI w y a:=⟨h.why,h.tx,h.val,h.is,YJ.rd h.pairs,zDj.rd h.done,h.time⟩
structure Mid (ρ:Own) (w:World) (b A C:Nat) (s':St) (p:Sl) (ps:List Pai) (d:Sl) (ds:List Wri) (ρ':Own) (W:World) (cs:List Value):Prop where
 mgr:Mgr ρ' W b s'
 ext:Ext ρ w ρ' W
 rA:ρ' A=none
 rC:ρ' C=none
 a:∃ z:List Value,z.length=7/\Row W A z zG7
 c:Row W C cs zG7
 pr:YJ w.heap.size W p ps
 dn:zDj w.heap.size W d ds
 rp:∀ q,(Sl.v p).ownBlock=some q->ρ' q=none
 rd:∀ q,(Sl.v d).ownBlock=some q->ρ' q=none
theorem Mid.st {ρ:Own} {w:World} {b A C:Nat} {s':St} {p:Sl} {ps:List Pai} {d:Sl} {ds:List Wri} {ρ':Own} {W:World} {cs:List Value} (h:Mid ρ w b A C s' p ps d ds ρ' W cs) {t:Nat} (hA:One zA t) {off:Nat} {v:Value}
  (hv:v.cells.toList=[v]) (hl:off<cs.length) (h1:v.oneCell'=true) (hC:w.heap.size<=C) (hAC:A≠C) {k:World->Prop} (H:∀ W',Mid ρ w b A C s' p ps d ds ρ' W' (cs.take off++[v]++cs.drop (off+1))->k W'):
  opU zA (zK t (.pointer (some ((⟨C,0,none⟩:Addr).add off))) v) W k:=by
 refine zHU hA h.c hv hl h1 λW' hR hg=>H W' ?_
 obtain ⟨z,hz,ha⟩:=h.a
 exact {h with
  mgr:=h.mgr.other hg h.rC
  ext:=h.ext.new hg hC
  a:=⟨z,hz,ha.grown hg (by simpa using hAC.symm)⟩
  c:=hR
  pr:=h.pr.kept hg (.inr (OwnS.ne_row h.pr h.c (by decide)))
  dn:=h.dn.kept hg (.inr (OwnS.ne_row h.dn h.c (by decide)))}
end Go.Proofs.YtealcoghiaeiiaaGreat.VG
set_option linter.unusedVariables false
set_option linter.unusedSimpArgs false
namespace Go.Proofs.YtealcoghiaeiiaaGreat.VG
open Go.VB Go.Proofs Go.RowKit
theorem zKX {l:List Pai} (h:zF6 l l.length):∀ d i x y,l[i]?=some x->l[i+d+1]?=some y->sLt x.Key y.Key=true
 |0,i,x,y,hx,hy=>h i x y (List.getElem?_eq_some_iff.1 hy).1 hx hy
 |d+1,i,x,y,hx,hy=>by
  obtain ⟨z,hz⟩:=getE (l:=l) (n:=i+d+1) (by have:=(List.getElem?_eq_some_iff.1 hy).1;omega)
  exact zG2 (zKX h d i x z hx hz) (h (i+d+1) z y (by have:=(List.getElem?_eq_some_iff.1 hy).1;omega) hz (by rw [show i+d+1+1=i+(d+1)+1 by omega];exact hy))
theorem zLD {l:List Pai} (h:zF6 l l.length):Rise (λp:Pai=>p.Key) l:=by
 rw [Rise,List.pairwise_iff_getElem]
 intro i j hi hj hij
 refine zKX h (j - i - 1) i _ _ (List.getElem?_eq_getElem hi) ?_
 rw [show i+(j - i - 1)+1=j by omega];exact List.getElem?_eq_getElem hj
theorem zPD {l:List Pai} (h1:l.length<=4096) (h2:l.any zHC=false) (h3:zF6 l l.length):Inv (newS l) where
 good:=by
  refine zJa (by show (l.map verP).length<=4096;rw [List.length_map];exact h1) (by show (1:Int)<=_;decide) (λx hx=>?_) ?_
  ·obtain ⟨p,hp,rfl⟩:=List.mem_map.1 hx
   have hl:zHC p=false:=by
    cases hpl:zHC p with
    |false=>rfl
    |true=>rw [List.any_eq_true.2 ⟨p,hp,hpl⟩] at h2;cases h2
   unfold zHC at hl
   simp only [Bool.or_eq_false_iff,decide_eq_false_iff_not] at hl
   exact ⟨by show (1:Int)<=1;decide,by show (1:Int)<=_;decide,λh=>(nomatch h),by show p.Key.size<=256;omega,by show p.Val.size<=512;omega⟩
  ·show (l.map verP).Pairwise vlt
   rw [List.pairwise_map]
   exact (zLD h3).imp λ{a b} h=>.inl h
 lo:=Int.le_refl 1
 lonow:=Int.le_refl 1
 past x hx:=by
  obtain ⟨p,hp,rfl⟩:=List.mem_map.1 hx
  exact Int.le_refl _
 giv:=Int.le_refl 0
 dom:=⟨[],⟨List.nodup_nil,λk=>by simp [newS]⟩,by simp⟩
 num n t ht:=(nomatch ht)
 tim n t ht:=(nomatch ht)
 txok n t ht:=(nomatch ht)
theorem zN8 {l:List Pai} (h3:zF6 l l.length):zAh (λk=>val (newS l).l k 1) l:=by
 have hs:(l.map verP).Pairwise vlt:=by rw [List.pairwise_map];exact (zLD h3).imp λ{a b} h=>.inl h
 refine ⟨zLD h3,λp=>?_⟩
 show p∈l↔val (l.map verP) p.Key 1=some p.Val
 constructor
 ·intro hp
  have:sees (l.map verP) p.Key 1=some (verP p):=zHO hs (List.mem_map.2 ⟨p,hp,rfl⟩) rfl (Int.le_refl _) λy hy _ h=>h
  unfold val;rw [this];rfl
 ·intro h
  unfold val at h
  cases hse:sees (l.map verP) p.Key 1 with
  |none=>rw [hse] at h;cases h
  |some x=>
   rw [hse] at h
   obtain ⟨g1,g2,_⟩:=zGh hse
   obtain ⟨q,hq,rfl⟩:=List.mem_map.1 g1
   have e1:q.Val=p.Val:=Option.some.inj h
   have e2:q.Key=p.Key:=g2
   obtain ⟨a,c⟩:=p;obtain ⟨a',c'⟩:=q
   simp at e1 e2;subst e1;subst e2;exact hq
end Go.Proofs.YtealcoghiaeiiaaGreat.VG
