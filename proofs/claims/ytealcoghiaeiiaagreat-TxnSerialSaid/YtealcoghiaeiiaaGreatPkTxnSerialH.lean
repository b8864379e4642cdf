/- Texts by which the law's calls are walked (part 8): rules, printed conditions, contracts; no condition. -/
import Derived.TacticsIn
import Derived.TacticsInMore
import Derived.Deep.LoopGhost
import Derived.Sort.QuietThIn
import Derived.RangeFuncCalls
import Derived.RangeFuncNested
import Derived.RangeFuncLeaves
import Derived.WalkKit
import Derived.StillTail
import Derived.Test.YtealcoghiaeiiaaGreatProg
import Derived.KernelRfl
import Derived.Deep.WholeRow
import Derived.Laws.StructEq
import Derived.MapFrom
import Derived.Laws.CopyRow
import Derived.Maps.RangeRun
import Derived.Sort.Walk0
import Derived.RangeFuncBound
import Derived.Test.YtealcoghiaeiiaaGreatPkTxnSerialG
open Go.Proofs.Tryz renaming prog → zA
open Go.IntKind renaming wrap → zC
open Go.Value renaming pointer → zB, int → zV, string → zZ, bool → xv
open Go.Instr renaming loadAt → zD, storeAt → zK, indexAt → zF, fieldAt → zN, alloc → zf, build → yr, buildSlice → ze
open Nat renaming le_refl → zU, le_trans → zn, lt_of_lt_of_le → yF
open List renaming length_append → zg
set_option linter.unusedVariables false
namespace Go.Proofs.YtealcoghiaeiiaaGreat.VG
open Go.VB Go.VB.Srt Go.Proofs Go.RowKit
theorem zSl:Agg zA zJA 0:=⟨λw=>by kernel_rfl,λw=>by kernel_rfl,by kernel_rfl⟩
theorem zSc:∀ w,(zf zJA true (.tuple #[])).run zA w=.ok (.pointer (some ⟨w.heap.size,0,none⟩)) (w.alloc (.cells ([]:List Value).toArray zJA)):=λw=>by kernel_rfl
theorem zSy:∀ w,(zeroValue zJA).run zA w=.ok (.agg ([]:List Value).toArray) w:=λw=>by kernel_rfl
theorem zJD:zFd zA zME zZ:=zFd.string (by kernel_rfl)
abbrev zJV (w:World) (s:Sl) (l:List Wri):Prop:=Rd zJ.cells 3 w s l
theorem OwnS.ne_row {α:Type} {c:α->List Value} {n e base:Nat} {w:World} {s:Sl} {xs:List α} (h:OwnS c n e base w s xs) {B:Nat} {cs:List Value} {e':TypeId} (hR:Row w B cs e') (hne:e≠e'):(Sl.v s).ownBlock≠some B:=λhB=>by
 rcases h.row.2 with ⟨h1,_⟩|⟨g,cap,cur,h1,_,hh,_⟩
 ·rw [h1] at hB;cases hB
 ·rw [h1] at hB
  simp [Value.ownBlock] at hB
  subst hB
  unfold Row at hR
  rw [hR] at hh
  injection hh with hh
  injection hh with _ h3 _
  exact hne h3.symm
theorem getW {l:List Wri} {n:Nat} (h:n<l.length):∃ x,l[n]?=some x:=⟨l[n]'h,by simp⟩
theorem zNy (x:Wri) (w:World) {k:Bool->World->Prop} (H:∀ b w',(b=true↔zBn x)->Bel w w'->k b w'):
  Cl zA zGh [zJ.v x].toArray w (λe w'=>∃ r0:Bool,e=.returned (.bool r0)/\k r0 w'):=by
 refine zKu x w k ?_
 unfold zG3
 refine zAo (cs:=x.cells) rfl λB w1 b1 hX _=>?_
 refine yA xm zh hX.at x.Key rfl ?_
 unfold zCe
 refine ⟨λh=>H true w1 ⟨λ_=>.inl (by omega),λ_=>rfl⟩ b1,λh=>?_⟩
 refine yA zBR zh hX.at x.Val rfl ?_
 refine H _ w1 ?_ b1
 rw [decide_eq_true_iff]
 exact ⟨λh=>.inr (by omega),λh1=>by rcases h1 with h1|h1<;>omega⟩
theorem zMO {w:World} {x:Sl} {m:List Wri} (hd:zJV w x m) {k:Bool->World->Prop} (H:∀ b w',(b=true↔∃ d∈m,zBn d)->Bel w w'->k b w'):
  Cl zA zDL [Sl.v x,.func (.func zGh) #[] #[]].toArray w (λe w'=>∃ r0:Bool,e=.returned (.bool r0)/\k r0 w'):=by
 have dbig:=hd.big;have dcap:=hd.cap;have dlen:=hd.len
 refine zDE x _ w k ?_
 unfold Zd
 refine zDz x _ w _ ?_
 unfold zAI
 refine ⟨λi w1=>∃ n:Nat,i=(n:Int)/\n<=m.length/\Bel w w1/\∀ d∈m.take n,¬ zBn d,λi _=>(x.len - i).toNat,⟨0,rfl,by omega,Bel.refl _,by simp⟩,?_⟩
 rintro i w1 ⟨n,rfl,hn,hb,hno⟩
 unfold YY
 refine ⟨λhc=>?_,λhc=>?_⟩
 ·obtain ⟨d,hdn⟩:=getW (l:=m) (n:=n) (by omega)
  refine zDA (hd.bel hb) zBW zCa (by omega) (x:=d) (by simpa using hdn) λad hA=>?_
  refine Za QR d rfl hA rfl ?_
  refine .inl ⟨zGh,[],[],rfl,zTS,zNy d w1 λb w2 hbb hb2=>?_⟩
  refine ⟨λht=>?_,λhf=>?_⟩
  ·dsimp only
   rw [decide_eq_true (p:=0<=(n:Int)) (by omega)]
   exact H true w2 ⟨λ_=>⟨d,List.mem_of_getElem? hdn,hbb.1 ht⟩,λ_=>rfl⟩ (hb.trans hb2)
  ·rw [wr64 (by omega) (by omega)]
   refine ⟨⟨n+1,by omega,by omega,hb.trans hb2,λe he=>?_⟩,by dsimp only;omega⟩
   rw [zA0 hdn] at he
   rcases List.mem_append.1 he with h2|h2
   ·exact hno e h2
   ·simp at h2;subst h2;exact λh3=>by rw [hbb.2 h3] at hf;cases hf
 ·obtain rfl:n=m.length:=by omega
  rw [List.take_length] at hno
  refine H _ w1 ⟨λh=>absurd (of_decide_eq_true h) (by omega),λ⟨d,h1,h2⟩=>absurd h2 (hno d h1)⟩ hb
theorem zOA {m:List Wri} {n:Nat} {x:Wri} (h:m[n]?=some x):zDw (m.take (n+1))=zDw (m.take n)++[x.Key]:=by
 unfold zDw;rw [zA0 h,List.map_append];rfl
theorem zLD {l:List ByteArray} {a:ByteArray}:(l++[a]).Nodup↔l.Nodup/\a∉l:=by
 rw [List.nodup_append]
 constructor
 ·rintro ⟨h1,_,h3⟩;exact ⟨h1,λh=>h3 a h a (by simp) rfl⟩
 ·rintro ⟨h1,h2⟩;exact ⟨h1,by simp,λx hx y hy e=>by simp at hy;subst hy;subst e;exact h2 hx⟩
theorem zOQ {m:List Wri} (n:Nat) (h:¬ (zDw (m.take n)).Nodup):¬ (zDw m).Nodup:=λh1=>h (by
 unfold zDw at*
 rw [List.map_take]
 exact h1.sublist (List.take_sublist _ _))
theorem zPj {w:World} {x:Sl} {m:List Wri} (hd:zJV w x m) {k:Int->World->Prop} (H:∀ w',Bel w w'->k (zHy m) w'):
  Cl zA zLc [Sl.v x].toArray w (λe w'=>∃ r0:Int,e=.returned (.int .i64 r0)/\k r0 w'):=by
 have dbig:=hd.big;have dcap:=hd.cap;have dlen:=hd.len
 refine zLn x w k ?_
 unfold zH0
 unfold zHy at H
 refine ⟨λhc=>?_,λhc=>?_⟩
 ·rw [if_pos (by omega)] at H;exact H w (Bel.refl _)
 rw [if_neg (by omega)] at H
 refine zMO hd λb w1 hb b1=>?_
 refine ⟨λht=>?_,λhf=>?_⟩
 ·rw [if_pos (hb.1 ht)] at H;exact H w1 b1
 rw [if_neg (λh=>by rw [hb.2 h] at hf;cases hf)] at H
 refine zOS (ek:=zZ) (ev:=zGJ.v) λhM=>?_
 have b2:=Bel.alloc w1 (.map #[] 0)
 have hle1:=b1.le
 generalize hB:w1.heap.size=B at hM hle1 ⊢
 generalize (w1.alloc (.map #[] 0))=w2 at hM b2 ⊢
 have b02:=b1.trans b2
 refine ⟨λi W=>∃ (n:Nat) (f:ByteArray->Option zGJ),i=(n:Int)/\n<=m.length/\Bel w W/\zAD zZ zGJ.v W B f/\(∀ s,(f s).isSome=true↔s∈zDw (m.take n))/\(zDw (m.take n)).Nodup,λi _=>(x.len - i).toNat,⟨0,_,rfl,by omega,b02,hM,λs=>by simp [zDw],by simp [zDw]⟩,?_⟩
 rintro i W ⟨n,f,rfl,hn,hb,hm,hf1,hnd⟩
 unfold zEg
 refine ⟨λhlt=>?_,λhlt=>?_⟩
 case refine_2=>
  obtain rfl:n=m.length:=by omega
  rw [List.take_length] at hnd
  rw [if_neg (by simp [hnd])] at H
  exact H W hb
 obtain ⟨d,hdn⟩:=getW (l:=m) (n:=n) (by omega)
 have hwk:=zOA hdn
 refine zDA (hd.bel hb) zBW zCa (by omega) (x:=d) (by simpa using hdn) λad hA=>?_
 refine Za QR d rfl hA rfl ?_
 refine zBa zBl rfl QR (cs:=d.cells) rfl rfl rfl λC w3 b3 hX hC=>?_
 refine yA xm zh hX.at d.Key rfl ?_
 have hm3:=hm.bel b3
 refine ⟨((f d.Key).getD ⟨⟩,(f d.Key).isSome),w3,hm3.run_lookOk zJD zGB zSy d.Key,?_⟩
 refine zBa zSc rfl zSl (cs:=([]:List Value)) rfl rfl rfl λC2 w4 b4 _ _=>?_
 have b04:=(hb.trans b3).trans b4
 refine ⟨λht=>?_,λhfl=>?_⟩
 ·have hin:=(hf1 d.Key).1 ht
  rw [if_pos (zOQ (n+1) (by rw [hwk,zLD];exact λh=>h.2 hin))] at H
  exact H w4 b04
 ·have hout:d.Key∉zDw (m.take n):=λh=>by rw [(hf1 d.Key).2 h] at hfl;cases hfl
  refine yA xm zh (hX.bel b4).at d.Key rfl ?_
  refine ⟨⟨⟩,w4,by kernel_rfl,?_⟩
  refine zQN (hm3.bel b4) zJD zGB d.Key ⟨⟩ λw5 hm5 hg5=>?_
  rw [wr64 (by omega) (by omega)]
  refine ⟨⟨n+1,_,by omega,by omega,b04.grown hg5 (λq hq=>by cases hq;exact hle1),hm5,λs=>?_,by rw [hwk,zLD];exact ⟨hnd,hout⟩⟩,by dsimp only;omega⟩
  rw [hwk]
  by_cases hs:s=d.Key
  ·subst hs;rw [Ql];simp
  ·rw [yU _ _ hs,hf1 s];simp [hs]
theorem zMT {w:World} {x:Sl} {l:List Ver} (hd:zFF w x l) {t:Int} {B:Nat} (hT:Row w B [.int .u64 t] zJE) {k:Bool->World->Prop} (H:∀ b w',(b=true↔∃ d∈l,t<=d.At)->Bel w w'->k b w'):
  Cl zA zAn [Sl.v x,.func (.func zJU) [].toArray [(.pointer (some ⟨B,0,none⟩))].toArray].toArray w (λe w'=>∃ r0:Bool,e=.returned (.bool r0)/\k r0 w'):=by
 have dbig:=hd.big;have dcap:=hd.cap;have dlen:=hd.len
 refine zAq x _ w k ?_
 unfold Q7
 refine zBB x _ w _ ?_
 unfold YZ
 refine ⟨λi w1=>∃ n:Nat,i=(n:Int)/\n<=l.length/\Bel w w1/\∀ d∈l.take n,¬ t<=d.At,λi _=>(x.len - i).toNat,⟨0,rfl,by omega,Bel.refl _,by simp⟩,?_⟩
 rintro i w1 ⟨n,rfl,hn,hb,hno⟩
 unfold yx
 refine ⟨λhc=>?_,λhc=>?_⟩
 ·obtain ⟨d,hdn⟩:=getV (l:=l) (n:=n) (by omega)
  refine zDA (hd.bel hb) yq Qc (by omega) (x:=d) (by simpa using hdn) λad hA=>?_
  refine Za yP d rfl hA rfl ?_
  refine .inl ⟨zJU,[],[.pointer (some ⟨B,0,none⟩)],rfl,zTO,?_⟩
  refine zLo d (some ⟨B,0,none⟩) w1 _ ?_
  unfold zH7
  refine zAo (cs:=d.cells) rfl λC w2 b2 hX _=>?_
  refine yA zAt yO hX.at d.At rfl ?_
  refine zBX yO t ((hT.bel hb).bel b2).cell ?_
  refine ⟨λht=>?_,λhf=>?_⟩
  ·dsimp only
   rw [decide_eq_true (p:=0<=(n:Int)) (by omega)]
   exact H true w2 ⟨λ_=>⟨d,List.mem_of_getElem? hdn,of_decide_eq_true ht⟩,λ_=>rfl⟩ (hb.trans b2)
  ·have h1:=of_decide_eq_false hf
   rw [wr64 (by omega) (by omega)]
   refine ⟨⟨n+1,by omega,by omega,hb.trans b2,λe he=>?_⟩,by dsimp only;omega⟩
   rw [zA0 hdn] at he
   rcases List.mem_append.1 he with h2|h2
   ·exact hno e h2
   ·simp at h2;subst h2;exact h1
 ·obtain rfl:n=l.length:=by omega
  rw [List.take_length] at hno
  refine H _ w1 ⟨λh=>absurd (of_decide_eq_true h) (by omega),λ⟨d,h1,h2⟩=>absurd h2 (hno d h1)⟩ hb
theorem zNI {w:World} {x0:Sl} {l:List Ver} (h:zFF w x0 l) (hl:l.length<=2932031007402) {k:Sl->World->Prop} (H:∀ r w',Z1 w.heap.size w' r l->Bel w w'->k r w'):
  Cl zA zD3 [Sl.v x0].toArray w (λe w'=>∃ r0:Sl,e=.returned (Sl.v r0)/\k r0 w'):=by
 refine zDy x0 w k ?_
 unfold zAE
 obtain ⟨a,len,cap⟩:=x0
 cases a with
 |none=>
  have hcap:=h.nilc rfl;have h1:=h.cap;have h2:=h.len
  have hl0:l=[]:=List.eq_nil_of_length_eq_zero (by simp at hcap h1 h2;omega)
  refine ⟨true,w,by kernel_rfl,λ_=>?_,λh=>(nomatch h)⟩
  subst hl0
  exact H _ _ (OwnS.nil _ _ _ _ _) (Bel.refl _)
 |some a=>
  refine ⟨false,w,by kernel_rfl,λh=>(nomatch h),λ_=>?_⟩
  refine ⟨_,_,zKB w,?_⟩
  exact zOs (w0:=w) (OwnS.lit0 (zU _)) (h.bel (Bel.alloc _ _)) (Bel.alloc _ _) (zU _) (by rw [size_alloc'];omega) (by simpa using hl) λs' w' h1 h2 _=>H s' w' (by simpa using h1) h2
theorem zQG {base:Nat} {w0 W:World} {B C:Nat} {sl:Sl} {low:Int} {l:List Ver} {x:Ver} (hR:Row W B [Sl.v sl,.int .u64 low] yG) (hO:Z1 base W sl l) (hX:At W ⟨C,0,none⟩ x.cells) (hb:Bel w0 W) (h0:w0.heap.size<=base) (hbw:base<=W.heap.size) (hB0:w0.heap.size<=B) (room:l.length+1<=2932031007402)
  {k:World->Prop} (H:∀ s' W',Row W' B [Sl.v s',.int .u64 low] yG->Z1 base W' s' (l++[x])->Bel w0 W'->W.heap.size<=W'.heap.size->k W'):
  opE zA zB (zN yG (.pointer (some ⟨B,0,none⟩)) 0) W (λp w=>opE zA Sl.v (zD zt (.pointer p)) w (λs w=>opE zA zG.v (zD yK (.pointer (some ⟨C,0,none⟩))) w (λv w=>
   opE zA Sl.v (ze zt 1 [(0,zG.v v)].toArray) w (λy w=>opE zA Sl.v (Builtin.append_ #[zt,zt] zt [Sl.v s,Sl.v y].toArray) w (λs' w=>
   opE zA zB (zN yG (.pointer (some ⟨B,0,none⟩)) 0) w (λp w=>opU zA (zK zt (.pointer p) (Sl.v s')) w k)))))):=by
 refine yA yI yH hR.at sl rfl ?_
 refine Za yP x rfl hX rfl ?_
 refine zNd (w0:=w0) hO hb h0 hbw room λs' W3 h1 h2 h3=>?_
 have hR3:=hR.grown h3 (OwnS.ne_row hO hR (by decide))
 refine ⟨_,_,yI _ W3,?_⟩
 refine zIu yH (off:=0) hR3 rfl (by simp) rfl λW4 h4 h5=>?_
 refine H s' W4 (by simpa using h4) (h1.kept h5 (.inr (OwnS.ne_row h1 hR3 (by decide)))) (h2.grown h5 λr hr=>by cases hr;exact hB0) (zn h3.size h5.size)
end Go.Proofs.YtealcoghiaeiiaaGreat.VG
set_option linter.unusedVariables false
namespace Go.Proofs.YtealcoghiaeiiaaGreat.VG
open Go.VB Go.VB.Srt Go.Proofs Go.RowKit
theorem zPh {w u W:World} {x1:Sl} {l:List Ver} {m:List Wri} {low t:Int} {B5 B6 B9:Nat} {r:Sl} (hm:zJV w x1 m) (hbu:Bel w u) (hs:l.Pairwise vlt) (hn:(zDw m).Nodup) (hl:∀ y∈l,y.At<t) (hlen:l.length+m.length<=4096)
  (h5:Row u B5 [.int .u64 t] zJE) (h6:Row u B6 zHJ yG) (hB6:w.heap.size<=B6) (hR:Row W B9 [Sl.v r,.int .u64 low] yG) (hO:Z1 u.heap.size W r l) (hb:Bel u W) (hB9:u.heap.size<=B9)
  {k:zQ->Int->World->Prop} (H:∀ r w' base,w.heap.size<=base->Z1 base w' r (putL l t m)->Bel w w'->k ⟨r,low⟩ 0 w'):
  zDd x1 k (some ⟨B5,0,none⟩) (some ⟨B6,0,none⟩) (some ⟨B9,0,none⟩) W:=by
 have dbig:=hm.big;have dcap:=hm.cap;have dlen:=hm.len
 have hwu:=hbu.le
 have lt6:=h6.lt
 unfold zDd
 refine ⟨λi W'=>∃ (n:Nat) (sl:Sl),i=(n:Int)/\n<=m.length/\Row W' B9 [Sl.v sl,.int .u64 low] yG/\Z1 u.heap.size W' sl (l++(m.take n).map (mk t))/\Bel u W',λi _=>(x1.len - i).toNat,⟨0,r,rfl,by omega,hR,by simpa using hO,hb⟩,?_⟩
 rintro i W' ⟨n,sl,rfl,hnn,hR',hO',hb'⟩
 unfold zFz
 refine ⟨λhlt=>?_,λhlt=>?_⟩
 ·obtain ⟨d,hdn⟩:=getW (l:=m) (n:=n) (by omega)
  have hmk:(m.take (n+1)).map (mk t)=(m.take n).map (mk t)++[mk t d]:=by rw [zA0 hdn,List.map_append];rfl
  refine zDA (hm.bel (hbu.trans hb')) zBW zCa (by omega) (x:=d) (by simpa using hdn) λad hA=>?_
  refine Za QR d rfl hA rfl ?_
  refine zBa zBl rfl QR (cs:=d.cells) rfl rfl rfl λC w3 b3 hX hC=>?_
  refine yA xm zh hX.at d.Key rfl ?_
  refine zBX yO t ((h5.bel hb').bel b3).cell ?_
  refine yA zBR zh hX.at d.Val rfl ?_
  refine yA zCI zDR hX.at d.Gone rfl ?_
  refine ⟨⟨d.Key,t,d.Val,d.Gone⟩,w3,by kernel_rfl,?_⟩
  refine zBa zBz rfl yP (cs:=(⟨d.Key,t,d.Val,d.Gone⟩:Ver).cells) rfl rfl rfl λC2 w4 b4 hY hC2=>?_
  have b34:=b3.trans b4
  have hb4:=hb'.trans b34
  refine yA zCI zDR (hX.bel b4).at d.Gone rfl ?_
  have j5:∀ w5,Row w5 C2 (mk t d).cells yK->Row w5 B9 [Sl.v sl,.int .u64 low] yG->Z1 u.heap.size w5 sl (l++(m.take n).map (mk t))->Bel u w5->
    zDc (some ⟨B9,0,none⟩) n (λ(i':Int) (w':World)=>(∃ (n:Nat) (sl:Sl),i'=(n:Int)/\n<=m.length/\Row w' B9 [Sl.v sl,.int .u64 low] yG/\Z1 u.heap.size w' sl (l++(m.take n).map (mk t))/\Bel u w')/\(x1.len - i').toNat<(x1.len - (n:Int)).toNat) (some ⟨C2,0,none⟩) w5:=by
   intro w5 r1 r2 r3 r4
   unfold zDc
   refine zQG (w0:=u) r2 r3 r1.at r4 (zU _) r4.le hB9 (by rw [zg,List.length_map,List.length_take];omega) λs' W5 q1 q2 q3 q4=>?_
   rw [wr64 (by omega) (by omega)]
   exact ⟨⟨n+1,s',by omega,by omega,q1,by rw [hmk,← List.append_assoc];exact q2,q3⟩,by omega⟩
  have hb'le:=hb'.le
  have b3le:=b3.le
  refine ⟨λhg=>?_,λhg=>?_⟩
  ·refine ⟨_,_,zB4 _ w4,?_⟩
   refine zIu zh (off:=2) hY rfl (by simp) rfl λw5 hZ hg5=>?_
   refine j5 w5 ?_ (((hR'.bel b34)).grown hg5 (λe=>?_)) ((hO'.bel b34).kept hg5 ?_) (hb4.grown hg5 λr hr=>by cases hr;omega)
   ·rw [show (mk t d)=⟨d.Key,t,noB,d.Gone⟩ by unfold mk;rw [if_pos hg]];simpa using hZ
   ·have h1:=hR'.lt;have h2:=Option.some.inj e;omega
   ·cases ho:(Sl.v sl).ownBlock with
    |none=>exact .inl rfl
    |some q=>exact .inr λe=>by have h8:=(hO'.row.lt q ho).2;have h9:=Option.some.inj e;omega
  ·exact j5 w4 (by rw [show (mk t d)=⟨d.Key,t,d.Val,d.Gone⟩ by unfold mk;rw [if_neg (by rw [hg];decide)]];exact hY) (hR'.bel b34) (hO'.bel b34) hb4
 ·obtain rfl:n=m.length:=by omega
  rw [List.take_length] at hO'
  refine yA yI yH hR'.at sl rfl ?_
  refine SoCmpFunc_api_Version.sort_ok zQ8 zOB hO' λys w3 hp hle hO3 hg3=>?_
  have hys:=zRh hs hn hl hp hle
  subst hys
  have hR3:=hR'.grown hg3 (OwnS.ne_row hO' hR' (by decide))
  refine Za yC ⟨sl,low⟩ rfl hR3.at rfl ?_
  have hb3:Bel u w3:=hb'.grown hg3 λr hr=>hO'.lo hr
  refine zLY (h6.bel hb3) rfl λw4 hg4=>?_
  have hb6:Bel w w4:=(hbu.trans hb3).grown hg4 λr hr=>by cases hr;exact hB6
  refine H sl w4 u.heap.size hwu (hO3.kept hg4 ?_) hb6
  cases ho:(Sl.v sl).ownBlock with
  |none=>exact .inl rfl
  |some q=>exact .inr λe=>by have h8:=hO3.lo ho;have h9:=Option.some.inj e;omega
theorem zO8 {w:World} {x0:zQ} {x1:Sl} {l:List Ver} {m:List Wri} (h:zFF w x0.List l) (hm:zJV w x1 m) (t:Int) {k:zQ->Int->World->Prop}
  (H:∀ r w' base,w.heap.size<=base->Z1 base w' r (vput l x0.Low m t).1->Bel w w'->k ⟨r,(vput l x0.Low m t).2.1⟩ (vput l x0.Low m t).2.2 w'):
  Cl zA zND [zQ.v x0,Sl.v x1,.int .u64 t].toArray w (λe w'=>∃ (r0:zQ) (r1:Int),e=.returned (.tuple [zQ.v r0,.int .i64 r1].toArray)/\k r0 r1 w'):=by
 refine zM7 x0 x1 t w k ?_
 have hbig:=h.big;have hcap:=h.cap;have hlen:=h.len
 have dbig:=hm.big;have dcap:=hm.cap;have dlen:=hm.len
 unfold zJp
 refine zAo (cs:=x0.cells) rfl λB3 w1 b1 hV hB3=>?_
 refine zAo (cs:=[.int .u64 t]) rfl λB5 w2 b2 hT hB5=>?_
 refine zFL zAz λB6 w3 b3 hZ hB6=>?_
 have b03:=(b1.trans b2).trans b3
 have w1le:=b1.le;have w2le:=b2.le
 replace hV:=(hV.bel b2).bel b3
 replace hT:=hT.bel b3
 refine Za yC x0 rfl hV.at rfl ?_
 refine zKf (h.bel b03) λw4 b4=>?_
 have b04:=b03.trans b4
 have J2:∀ (c:Int) W,Bel w4 W->c=pwhy l x0.Low m t->zBj x1 k (some ⟨B3,0,none⟩) (some ⟨B5,0,none⟩) (some ⟨B6,0,none⟩) c W:=by
  intro c W hb hc
  have b0W:=b04.trans hb
  have hZW:=(hZ.bel b4).bel hb
  unfold vput at H
  rw [← hc] at H
  unfold zBj
  refine ⟨λhne=>?_,λhz=>?_⟩
  ·rw [if_pos hne] at H
   refine ⟨zMK,W,by kernel_rfl,?_⟩
   have hbg:∀ W',W.grownBy W' (some B6)->Bel w W':=λW' hg=>b0W.grown hg λr hr=>by cases hr;omega
   exact zLY hZW rfl λW' hg=>H Sl.none W' W'.heap.size (hbg W' hg).le (OwnS.nil _ _ _ _ _) (hbg W' hg)
  rw [if_neg hz] at H
  obtain ⟨g1,g2,g3,g4,g5,g6,g7⟩:=zFa.1 (hc ▸ Classical.not_not.1 hz:pwhy l x0.Low m t=0)
  have hnd:=(zGZ.1 g2).2.2
  refine ⟨Bel W,λu bu=>⟨bu,?_⟩⟩
  have b0u:=b0W.trans bu
  have hVu:=((hV.bel b4).bel hb).bel bu
  have hTu:=((hT.bel b4).bel hb).bel bu
  have hZu:=hZW.bel bu
  have hVb:∀ W',Bel W W'->Row W' B3 x0.cells yG:=λW' hw=>((hV.bel b4).bel hb).bel hw
  refine zFW yI ?_
  refine zFW zA3 ?_
  refine zC3 yH x0.List (λW' hW'=>(hVb W' hW').at.fld rfl) ?_
  refine zC3 yO x0.Low (λW' hW'=>(hVb W' hW').at.fld rfl) ?_
  have fin:=λ(r:Sl) (B9:Nat) (W':World) (hR:Row W' B9 [Sl.v r,.int .u64 x0.Low] yG) (hO:Z1 u.heap.size W' r l) (hb':Bel u W') (hB9:u.heap.size<=B9)=>zPh (low:=x0.Low) (k:=k) hm b0u g1.sorted hnd g6 g7 hTu hZu (by omega) hR hO hb' hB9 H
  constructor
  ·refine zNI (h.bel b0u) (by omega) λr W1 hO c1=>?_
   refine ⟨bu.trans c1,?_⟩
   refine ⟨⟨r,x0.Low⟩,λW' _=>by kernel_rfl,?_⟩
   refine zFL zAz λB9 W2 c2 hR hB9=>?_
   refine ⟨(bu.trans c1).trans c2,?_⟩
   have c1le:=c1.le
   refine zI1 yC hR rfl rfl rfl λW3 hR3 hg3=>?_
   have c3:Bel u W3:=(c1.trans c2).grown hg3 λr hr=>by cases hr;omega
   exact ⟨bu.trans c3,fin r B9 W3 hR3 ((hO.bel c2).kept hg3 (.inr (OwnS.ne_row (hO.bel c2) hR (by decide)))) c3 (by omega)⟩
  ·refine zFL zAz λB9 W1 c1 hR hB9=>?_
   refine ⟨bu.trans c1,?_⟩
   refine zNI (h.bel (b0u.trans c1)) (by omega) λr W2 hO c2=>?_
   refine ⟨(bu.trans c1).trans c2,?_⟩
   refine ⟨⟨r,x0.Low⟩,λW' _=>by kernel_rfl,?_⟩
   have hR2:=hR.bel c2
   refine zI1 yC hR2 rfl rfl rfl λW3 hR3 hg3=>?_
   have c3:Bel u W3:=(c1.trans c2).grown hg3 λr hr=>by cases hr;omega
   have hO':Z1 u.heap.size W2 r l:=⟨hO.len,hO.small,hO.row.1,by
    rcases hO.row.2 with h1|⟨g,cap,cur,p1,p2,p3⟩
    ·exact .inl h1
    ·exact .inr ⟨g,cap,cur,p1,zn c1.le p2,p3⟩⟩
   exact ⟨bu.trans c3,fin r B9 W3 hR3 (hO'.kept hg3 (.inr (OwnS.ne_row hO' hR2 (by decide)))) c3 hB9⟩
 have J1:∀ (c:Int) W,Bel w4 W->(c≠0->c=pwhy l x0.Low m t)->(c=0->vchk l x0.Low=0/\zHy m=0)->zDY x1 k (some ⟨B3,0,none⟩) (some ⟨B5,0,none⟩) (some ⟨B6,0,none⟩) c W:=by
  intro c W hb hc1 hc2
  have b0W:=b04.trans hb
  unfold zDY
  refine ⟨λhne=>J2 c W hb (hc1 hne),λhz=>?_⟩
  obtain rfl:c=0:=Classical.not_not.1 hz
  obtain ⟨e1,e2⟩:=hc2 rfl
  have hp:pwhy l x0.Low m t=if t<1∨2305843009213693952<t then 2 else if t<x0.Low∨(∃ x∈l,t<=x.At) then 9 else if 4096<l.length+m.length then 3 else 0:=by
   unfold pwhy;rw [if_neg (by simp [e1]),if_neg (by simp [e2])]
  have hg:=(zGC.1 e1).len
  have hm4:=(zGZ.1 e2).1
  have hTW:=(hT.bel b4).bel hb
  have hVW:=(hV.bel b4).bel hb
  refine zBX yO t hTW.cell ?_
  have r7t:(t<1∨2305843009213693952<t)->zDa x1 k (some ⟨B3,0,none⟩) (some ⟨B5,0,none⟩) (some ⟨B6,0,none⟩) 0 true W:=λht=>⟨λ_=>J2 2 W hb (by rw [hp,if_pos ht]),λh=>(nomatch h)⟩
  refine ⟨λht=>r7t (.inl ht),λht=>?_⟩
  refine zBX yO t hTW.cell ?_
  by_cases ht2:2305843009213693952<t
  ·rw [decide_eq_true ht2];exact r7t (.inr ht2)
  rw [decide_eq_false ht2]
  rw [if_neg (by omega)] at hp
  unfold zDa
  refine ⟨λh=>(nomatch h),λ_=>?_⟩
  refine zBX yO t hTW.cell ?_
  refine yA zA3 yO hVW.at x0.Low rfl ?_
  have r8t:∀ W',Bel w4 W'->(t<x0.Low∨(∃ x∈l,t<=x.At))->zDb x1 k (some ⟨B3,0,none⟩) (some ⟨B5,0,none⟩) (some ⟨B6,0,none⟩) 0 true W':=λW' hb' ht=>⟨λ_=>J2 9 W' hb' (by rw [hp,if_pos ht]),λh=>(nomatch h)⟩
  refine ⟨λhlo=>r8t W hb (.inl hlo),λhlo=>?_⟩
  refine yA yI yH hVW.at x0.List rfl ?_
  refine zMT (h.bel b0W) hTW λb W1 hbb b5=>?_
  cases b with
  |true=>exact r8t W1 (hb.trans b5) (.inr (hbb.1 rfl))
  |false=>
   rw [if_neg (λhx=>by
    rcases hx with h1|h1
    ·exact hlo h1
    ·have:=hbb.2 h1;cases this)] at hp
   unfold zDb
   refine ⟨λh=>(nomatch h),λ_=>?_⟩
   refine yA yI yH (hVW.bel b5).at x0.List rfl ?_
   rw [wr64 (by omega) (by omega)]
   exact ⟨λh4=>J2 3 W1 (hb.trans b5) (by rw [hp,if_pos (by omega)]),λh4=>J2 0 W1 (hb.trans b5) (by rw [hp,if_neg (by omega)])⟩
 refine ⟨λhc=>?_,λhc=>J1 _ w4 (Bel.refl _) (λ_=>by unfold pwhy;rw [if_pos hc]) (λh=>absurd h hc)⟩
 refine zPj (hm.bel b04) λw5 b5=>?_
 exact J1 _ w5 b5 (λhne=>by unfold pwhy;rw [if_neg (by simp [hc]),if_pos hne]) (λhz=>⟨hc,hz⟩)
end Go.Proofs.YtealcoghiaeiiaaGreat.VG
set_option linter.unusedVariables false
namespace Go.Proofs.YtealcoghiaeiiaaGreat.VG
open Go.VB Go.VB.Srt Go.Proofs Go.RowKit
theorem zSX {w:World} {x y:Pai} {o1 o2:Operand} {k:Bool->Prop} (H:∀ b:Bool,(b=true↔¬ x=y)->k b):
  opB zA xv (do eqGuard .neq zAG o1 o2 (zM.v x) (zM.v y);binOp .neq zAG (zM.v x) (zM.v y)) w k:=by
 obtain ⟨r,h1,h2⟩:=zMJ x y o1 o2
 exact ⟨r,λw' _=>h1 w',H r h2⟩
theorem zNn {w:World} {x0 x1:Sl} {l m:List Pai} (h:zHL w x0 l) (h':zHL w x1 m) {k:Bool->World->Prop} (H:∀ r w',(r=true↔l=m)->Bel w w'->k r w'):
  Cl zA zJM [Sl.v x0,Sl.v x1].toArray w (λe w'=>∃ r0:Bool,e=.returned (.bool r0)/\k r0 w'):=by
 refine zJO x0 x1 w k ?_
 have hbig:=h.big;have hcap:=h.cap;have hlen:=h.len;have hlen':=h'.len
 unfold zFQ
 refine ⟨λhc=>H false w ⟨λh=>(nomatch h),λh=>?_⟩ (Bel.refl _),λhc=>?_⟩
 ·subst h;omega
 have hc':(x0.len:Int)=x1.len:=Classical.not_not.1 hc
 refine ⟨λx w1=>∃ n:Nat,x=(n:Int)/\n<=l.length/\Bel w w1/\l.take n=m.take n,λx _=>(x0.len - x).toNat,⟨0,rfl,by omega,Bel.refl _,rfl⟩,?_⟩
 rintro x w1 ⟨n,rfl,hn,hb,hq⟩
 unfold zB7
 refine ⟨λhc=>?_,λhc=>?_⟩
 ·obtain ⟨e,he⟩:∃ e,l[n]?=some e:=⟨l[n]'(by omega),by simp⟩
  obtain ⟨f,hf⟩:∃ f,m[n]?=some f:=⟨m[n]'(by omega),by simp⟩
  refine zIF (h.bel hb) YR Zh (by omega) (x:=e) (by simpa using he) λad hA=>?_
  refine zI2 YA e rfl hA rfl ?_
  refine zIF (h'.bel hb) YR Zh (by omega) (x:=f) (by simpa using hf) λad' hA'=>?_
  refine zI2 YA f rfl hA' rfl ?_
  refine zSX λb hbb=>?_
  intro w2 hb2
  refine ⟨λht=>H false w2 ⟨λh=>(nomatch h),λh=>?_⟩ (hb.trans hb2),λhf0=>?_⟩
  ·subst h;rw [he] at hf;exact absurd (Option.some.inj hf) (hbb.1 ht)
  ·have hef:e=f:=Classical.not_not.1 λh=>by rw [hbb.2 h] at hf0;cases hf0
   subst hef
   rw [wr64 (by omega) (by omega)]
   exact ⟨⟨n+1,by omega,by omega,hb.trans hb2,zKF hq he hf⟩,by dsimp only;omega⟩
 ·obtain rfl:n=l.length:=by omega
  refine H true w1 ⟨λ_=>?_,λ_=>rfl⟩ hb
  rw [List.take_length,List.take_of_length_le (by omega)] at hq
  exact hq
abbrev tA:ByteArray:=ByteArray.mk #[97]
abbrev t1:ByteArray:=ByteArray.mk #[49]
abbrev t2:ByteArray:=ByteArray.mk #[50]
end Go.Proofs.YtealcoghiaeiiaaGreat.VG
set_option linter.unusedVariables false
namespace Go.Proofs.YtealcoghiaeiiaaGreat.VG
open Go.VB Go.VB.Srt Go.Proofs Go.RowKit
theorem zNG {low:Int} {x z:Ver} {o:Option Ver}:z∈zCr low x o↔z=x/\(∀ y,o=some y->y.Key=x.Key->low<y.At)/\¬ (x.Gone=true/\x.At<=low):=by
 unfold zCr
 by_cases h1:∃ y,o=some y/\y.Key=x.Key/\y.At<=low
 ·rw [if_pos h1]
  obtain ⟨y,h2,h3,h4⟩:=h1
  exact ⟨λh=>(nomatch h),λh=>by have:=h.2.1 y h2 h3;omega⟩
 ·rw [if_neg h1]
  by_cases h2:x.Gone=true/\x.At<=low
  ·rw [if_pos h2];exact ⟨λh=>(nomatch h),λh=>absurd h2 h.2.2⟩
  ·rw [if_neg h2]
   refine ⟨λh=>⟨by simpa using h,λy h3 h4=>Int.not_le.1 λh5=>h1 ⟨y,h3,h4,h5⟩,h2⟩,λh=>by simp [h.1]⟩
theorem zK6 {low:Int} {z:Ver}:∀ {l:List Ver},l.Pairwise vlt->(z∈swp low l↔z∈l/\(∀ y∈l,y.Key=z.Key->z.At<y.At->low<y.At)/\¬ (z.Gone=true/\z.At<=low))
 |[],_=>by simp [swp]
 |x::r,hs=>by
  rw [List.pairwise_cons] at hs
  rw [swp,List.mem_append,zNG,zK6 hs.2]
  have hxr:∀ y∈r,y.Key=x.Key->x.At<y.At:=λy hy hk=>by
   rcases hs.1 y hy with h|h
   ·rw [hk] at h;exact absurd h (Z6 _)
   ·exact h.2
  constructor
  ·rintro (⟨rfl,h1,h2⟩|⟨h1,h2,h3⟩)
   ·refine ⟨by simp,λy hy hk hlt=>?_,h2⟩
    rcases List.mem_cons.1 hy with h3|h3
    ·subst h3;omega
    ·cases r with
     |nil=>simp at h3
     |cons h r=>
      rcases List.mem_cons.1 h3 with h4|h4
      ·subst h4;exact h1 y rfl hk
      ·have h5:=(List.pairwise_cons.1 hs.2).1 y h4
       have h6:=hs.1 h (by simp)
       have hhk:h.Key=z.Key:=by
        rcases h5 with h5|h5
        ·rcases h6 with h6|h6
         ·rw [hk] at h5;exact absurd h6 (zIB h5)
         ·exact h6.1.symm
        ·exact h5.1.trans hk
       have h7:=h1 h rfl hhk
       rcases h5 with h5|h5
       ·rw [hk,hhk] at h5;exact absurd h5 (Z6 _)
       ·omega
   ·refine ⟨List.mem_cons_of_mem _ h1,λy hy hk hlt=>?_,h3⟩
    rcases List.mem_cons.1 hy with h4|h4
    ·subst h4
     have:=hxr z h1 hk.symm
     omega
    ·exact h2 y h4 hk hlt
  ·rintro ⟨h1,h2,h3⟩
   rcases List.mem_cons.1 h1 with h4|h4
   ·left
    subst h4
    refine ⟨rfl,λy hy hk=>?_,h3⟩
    have hyr:y∈r:=List.mem_of_mem_head? hy
    exact h2 y (List.mem_cons_of_mem _ hyr) hk (hxr y hyr hk)
   ·right
    exact ⟨h4,λy hy=>h2 y (List.mem_cons_of_mem _ hy),h3⟩
theorem zNK (low:Int) (x:Ver) (o:Option Ver):(zCr low x o).Sublist [x]:=by
 unfold zCr;split
 ·exact List.nil_sublist _
 ·split
  ·exact List.nil_sublist _
  ·exact List.Sublist.refl _
theorem zH2 (low:Int):∀ l:List Ver,(swp low l).Sublist l
 |[]=>List.Sublist.refl _
 |x::r=>by
  rw [swp]
  exact (zNK low x r.head?).append (zH2 low r)
theorem zQY {l:List Ver} {low0 low:Int} (h:zCt l low0) (hl:low<=2305843009213693952):zCt (swp low l) low:=
 zK4 (zn (zMh low l) h.len) hl (λx hx=>h.made ((zH2 low l).subset hx)) (h.sorted.sublist (zH2 low l))
theorem zPP {l:List Ver} {low0 low:Int} (h:(zDh l low0 low).2.2=0):zCt l low0/\low0<=low/\low<=2305843009213693952/\zDh l low0 low=(swp low l,low,0):=by
 unfold zDh at h ⊢
 by_cases h1:vchk l low0=0
 case neg=>rw [if_pos h1] at h;exact absurd h h1
 rw [if_neg (by simp [h1])] at h ⊢
 by_cases h2:low<low0
 ·rw [if_pos h2] at h;exact absurd h (by decide)
 rw [if_neg h2] at h ⊢
 by_cases h3:2305843009213693952<low
 ·rw [if_pos h3] at h;exact absurd h (by decide)
 rw [if_neg h3]
 exact ⟨zGC.1 h1,by omega,by omega,rfl⟩
theorem zPG {l:List Ver} {low0 low:Int} (h:zCt l low0) (h1:low0<=low) (h2:low<=2305843009213693952):zDh l low0 low=(swp low l,low,0):=by
 unfold zDh;rw [if_neg (by simp [zLx h]),if_neg (by omega),if_neg (by omega)]
theorem zHt {l m:List Ver} (hl:l.Pairwise vlt) (hm:m.Pairwise vlt) {key:ByteArray} {s t:Int} (h:∀ x:Ver,x.Key=key->((x∈l/\x.At<=s)↔(x∈m/\x.At<=t))):sees l key s=sees m key t:=by
 unfold sees
 congr 1
 refine zJj (hl.sublist List.filter_sublist) (hm.sublist List.filter_sublist) λx=>?_
 rw [List.mem_filter,List.mem_filter]
 simp only [Bool.and_eq_true,decide_eq_true_eq]
 constructor
 ·rintro ⟨h1,h2,h3⟩;have:=(h x h2).1 ⟨h1,h3⟩;exact ⟨this.1,h2,this.2⟩
 ·rintro ⟨h1,h2,h3⟩;have:=(h x h2).2 ⟨h1,h3⟩;exact ⟨this.1,h2,this.2⟩
theorem zQm {l:List Ver} {low0:Int} (hg:zCt l low0) {low ask:Int} (ha:low<=ask) (key:ByteArray):outV (sees (swp low l) key ask)=outV (sees l key ask):=by
 have hs:=hg.sorted
 have hsw:=hs.sublist (zH2 low l)
 cases h:sees l key ask with
 |none=>
  have:sees (swp low l) key ask=none:=zEi.2 λx hx=>zEi.1 h x ((zH2 low l).subset hx)
  rw [this]
 |some x=>
  obtain ⟨h1,h2,h3⟩:=zHi h
  have hmax:=zRI hs h
  by_cases hx:x∈swp low l
  ·rw [zIr hsw hx h2 h3 λy hy=>hmax y ((zH2 low l).subset hy)]
  ·have hgone:x.Gone=true/\x.At<=low:=Classical.byContradiction λhn=>hx ((zK6 hs).2 ⟨h1,λy hy hk hlt=>Int.not_le.1 λhle=>by
    have:=hmax y hy (hk.trans h2) (by omega);omega,hn⟩)
   have:sees (swp low l) key ask=none:=zEi.2 λz hz ⟨hk,hz2⟩=>by
    obtain ⟨z1,z2,z3⟩:=(zK6 hs).1 hz
    have hzx:=hmax z z1 hk hz2
    by_cases he:z.At=x.At
    ·have:z=x:=by
      have hmem:∀ p∈l,∀ q∈l,p.Key=q.Key->p.At=q.At->p=q:=λp hp q hq hk ha=>by
       obtain ⟨i,hi⟩:=List.getElem?_of_mem hp
       obtain ⟨j,hj⟩:=List.getElem?_of_mem hq
       rcases Nat.lt_trichotomy i j with hij|hij|hij
       ·rcases zH9 hs hij hi hj with h5|h5
        ·rw [hk] at h5;exact absurd h5 (Z6 _)
        ·omega
       ·subst hij;rw [hi] at hj;exact Option.some.inj hj
       ·rcases zH9 hs hij hj hi with h5|h5
        ·rw [hk] at h5;exact absurd h5 (Z6 _)
        ·omega
      exact hmem z z1 x h1 (hk.trans h2.symm) he
     subst this;exact hx hz
    ·have:=z2 x h1 (h2.trans hk.symm) (by omega);omega
   rw [this]
   show (noB,false)=(x.Val,!x.Gone)
   rw [hgone.1,(hg.made h1).gone hgone.1];rfl
theorem zGw {l:List Ver} {t:Int} {m:List Wri} {x:Ver}:x∈putL l t m↔x∈l∨∃ w∈m,mk t w=x:=by
 rw [(zKZ t m l).mem_iff,List.mem_append,List.mem_map]
theorem zRT {l:List Ver} {low:Int} {m:List Wri} {t:Int} (h:(vput l low m t).2.2=0):pwhy l low m t=0/\vput l low m t=(putL l t m,low,0):=by
 unfold vput at h ⊢
 by_cases h1:pwhy l low m t=0
 ·rw [if_neg (by simp [h1])];exact ⟨h1,rfl⟩
 ·rw [if_pos h1] at h;exact absurd h h1
theorem zRP {t:Int} {w:Wri} (h1:1<=t) (h2:t<=2305843009213693952) (hw:¬ zBn w):Made (mk t w):=by
 have h3:w.Key.size<=256:=Nat.not_lt.1 λh=>hw (.inl h)
 have h4:w.Val.size<=512:=Nat.not_lt.1 λh=>hw (.inr h)
 refine ⟨h1,h2,λhg=>?_,h3,?_⟩
 ·unfold mk at hg ⊢;simp only at hg ⊢;rw [if_pos hg]
 ·unfold mk;simp only;split
  ·decide
  ·exact h4
theorem zG7 {l:List Ver} {low:Int} {m:List Wri} {t:Int} (h:pwhy l low m t=0):(putL l t m).Pairwise vlt:=by
 obtain ⟨g1,g2,g3,g4,g5,g6,g7⟩:=zFa.1 h
 exact zIe m l g1.sorted (zGZ.1 g2).2.2 λw _ y hy _=>g6 y hy
theorem zQ2 {l:List Ver} {low:Int} {m:List Wri} {t:Int} (h:pwhy l low m t=0):zCt (putL l t m) low:=by
 obtain ⟨g1,g2,g3,g4,g5,g6,g7⟩:=zFa.1 h
 refine zK4 (by rw [zNX];exact g7) g1.low (λx hx=>?_) (zG7 h)
 rcases zGw.1 hx with h1|⟨w,h1,rfl⟩
 ·exact g1.made h1
 ·exact zRP g3 g4 ((zGZ.1 g2).2.1 w h1)
theorem zP1 {l:List Ver} {low:Int} {m:List Wri} {t ask:Int} (h:pwhy l low m t=0) (ha:ask<t) (key:ByteArray):sees (putL l t m) key ask=sees l key ask:=by
 obtain ⟨g1,_⟩:=zFa.1 h
 refine zHt (zG7 h) g1.sorted λx _=>?_
 rw [zGw]
 constructor
 ·rintro ⟨h1|⟨w,h1,rfl⟩,h2⟩
  ·exact ⟨h1,h2⟩
  ·have:t<=ask:=h2;omega
 ·rintro ⟨h1,h2⟩;exact ⟨.inl h1,h2⟩
theorem zPg {l:List Ver} {low:Int} {m:List Wri} {t ask:Int} (h:pwhy l low m t=0) (ha:t<=ask) {key:ByteArray} (hk:∀ w∈m,w.Key≠key):sees (putL l t m) key ask=sees l key t:=by
 obtain ⟨g1,_,_,_,_,g6,_⟩:=zFa.1 h
 refine zHt (zG7 h) g1.sorted λx hxk=>?_
 rw [zGw]
 constructor
 ·rintro ⟨h1|⟨w,h1,rfl⟩,h2⟩
  ·exact ⟨h1,by have:=g6 x h1;omega⟩
  ·exact absurd hxk (hk w h1)
 ·rintro ⟨h1,h2⟩;exact ⟨.inl h1,by omega⟩
theorem zRB {l:List Ver} {low:Int} {m:List Wri} {t ask:Int} (h:pwhy l low m t=0) (ha:t<=ask) {w:Wri} (hw:w∈m):sees (putL l t m) w.Key ask=some (mk t w):=by
 obtain ⟨g1,_,_,_,_,g6,_⟩:=zFa.1 h
 refine zIr (zG7 h) (zGw.2 (.inr ⟨w,hw,rfl⟩)) rfl ha λy hy _ _=>?_
 rcases zGw.1 hy with h1|⟨v,h1,rfl⟩
 ·have:=g6 y h1;show y.At<=t;omega
 ·exact Int.le_refl _
theorem zRj {l:List Ver} {low t:Int} (hg:zCt l low) (ht:low<=t) (key:ByteArray):vget l low key t=((outV (sees l key t)).1,(outV (sees l key t)).2,0):=by
 unfold vget;rw [if_neg (by rw [zHm.2 ⟨hg,ht⟩];decide)]
end Go.Proofs.YtealcoghiaeiiaaGreat.VG
set_option linter.unusedVariables false
namespace Go.Proofs.YtealcoghiaeiiaaGreat.VG
open Go.VB Go.Proofs Go.RowKit
abbrev Spn:=yD
structure Tx where
 began:Int
 reads:List Spn
 wr:ByteArray->Option Wri
structure St where
 l:List Ver
 low:Int
 now:Int
 given:Int
 tx:Int->Option Tx
inductive Role where
 |mg
 |om
 |ve
 |tb (n:Int)
 |wb (n:Int)
 |rb (n:Int)
structure Gh where
 tb:Nat
 wb:Nat
 rs:Sl
abbrev Own:=Nat->Option Role
structure TxAt (ρ:Own) (w:World) (n:Int) (t:Tx) (g:Gh):Prop where
 row:Row w g.tb [.int .u64 t.began,Sl.v g.rs,.map (some g.wb)] zBV
 rtb:ρ g.tb=some (.tb n)
 rd:OwnS yD.cells 3 zKn 0 w g.rs t.reads
 rrd:∀ k,(Sl.v g.rs).ownBlock=some k->ρ k=some (.rb n)
 wr:zAD zZ zJ.v w g.wb t.wr
 rwb:ρ g.wb=some (.wb n)
structure zCx (ρ:Own) (w:World) (b:Nat) (s:St) (vs:Sl) (mb:Nat) (g:Int->Gh):Prop where
 row:Row w b [Sl.v vs,.int .u64 s.low,.int .u64 s.now,.int .i64 s.given,.map (some mb)] zAC
 rmg:ρ b=some .mg
 vers:zFF w vs s.l
 rve:∀ k,(Sl.v vs).ownBlock=some k->ρ k=some .ve
 mp:zAD (zV .i64) zB w mb (λn=>(s.tx n).map λ_=>some ⟨(g n).tb,0,none⟩)
 rom:ρ mb=some .om
 tx:∀ n t,s.tx n=some t->TxAt ρ w n t (g n)
 lt:∀ k,ρ k≠none->k<w.heap.size
def Mgr (ρ:Own) (w:World) (b:Nat) (s:St):Prop:=∃ vs mb g,zCx ρ w b s vs mb g
structure Ext (ρ:Own) (w:World) (ρ':Own) (w':World):Prop where
 out:Out (λk=>ρ k≠none) w w'
 same:∀ k,k<w.heap.size->ρ' k=ρ k
section
variable {ρ ρ' ρ'':Own} {w w' w'':World} {b:Nat} {s:St} {n:Int} {t:Tx} {g:Gh}
theorem Ext.refl (ρ:Own) (w:World):Ext ρ w ρ w:=⟨Out.refl _ w,λ_ _=>rfl⟩
theorem Ext.bel (h:Bel w w'):Ext ρ w ρ w':=⟨h.out,λ_ _=>rfl⟩
theorem Ext.grown {k:Nat} {r:Role} (h:w.grownBy w' (some k)) (hk:ρ k=some r):Ext ρ w ρ w':=
 ⟨Out.row h λi hi=>by injection hi with hi;subst hi;exact .inl (by rw [hk];simp),λ_ _=>rfl⟩
theorem Ext.trans (h:Ext ρ w ρ' w') (k:Ext ρ' w' ρ'' w''):Ext ρ w ρ'' w'':=
 ⟨h.out.trans k.out λi hi hr=>by rw [h.same i hi] at hr;exact hr,λi hi=>(k.same i (yF hi h.out.size)).trans (h.same i hi)⟩
theorem Ext.base {w0:World} (hb:Bel w0 w) (h:Ext ρ w ρ' w') (hr:∀ k,k<w0.heap.size->ρ k=none):Bel w0 w':=h.out.bel hb λi hi h1=>h1 (hr i hi)
theorem Ext.clear {n0:Nat} (h:Ext ρ w ρ' w') (hn:n0<=w.heap.size) (hr:∀ k,k<n0->ρ k=none):∀ k,k<n0->ρ' k=none:=λk hk=>(h.same k (yF hk hn)).trans (hr k hk)
theorem Ext.blk (h:Ext ρ w ρ' w') {k:Nat} (hk:k<w.heap.size) (hr:ρ k=none):w'.heap[k]?=w.heap[k]?:=h.out.block k hk λh1=>h1 hr
theorem TxAt.lt (h:TxAt ρ w n t g) {k:Nat} {r:Role}:g.tb<w.heap.size:=h.row.lt
theorem TxAt.keep (h:TxAt ρ w n t g) (hlt:∀ k,ρ k≠none->k<w.heap.size) (hρ:∀ k,k<w.heap.size->ρ' k=ρ k) (h1:∀ k,ρ k=some (.tb n)->w'.heap[k]?=w.heap[k]?) (h2:∀ k,ρ k=some (.wb n)->w'.heap[k]?=w.heap[k]?) (h3:∀ k,ρ k=some (.rb n)->w'.heap[k]?=w.heap[k]?):TxAt ρ' w' n t g where
 row:=h.row.keep (h1 _ h.rtb)
 rtb:=(hρ _ (hlt _ (by rw [h.rtb];simp))).trans h.rtb
 rd:=h.rd.keep λk hk=>h3 k (h.rrd k hk)
 rrd k hk:=(hρ _ (hlt _ (by rw [h.rrd k hk];simp))).trans (h.rrd k hk)
 wr:=h.wr.keep (h2 _ h.rwb)
 rwb:=(hρ _ (hlt _ (by rw [h.rwb];simp))).trans h.rwb
theorem zCx.keep {vs:Sl} {mb:Nat} {gh:Int->Gh} (h:zCx ρ w b s vs mb gh) (hs:w.heap.size<=w'.heap.size) (hk:∀ k,ρ k≠none->w'.heap[k]?=w.heap[k]?):zCx ρ w' b s vs mb gh where
 row:=h.row.keep (hk _ (by rw [h.rmg];simp))
 rmg:=h.rmg
 vers:=h.vers.keep λk h1=>hk k (by rw [h.rve k h1];simp)
 rve:=h.rve
 mp:=h.mp.keep (hk _ (by rw [h.rom];simp))
 rom:=h.rom
 tx n t ht:=(h.tx n t ht).keep h.lt (λ_ _=>rfl) (λk h1=>hk k (by rw [h1];simp)) (λk h1=>hk k (by rw [h1];simp)) (λk h1=>hk k (by rw [h1];simp))
 lt k h1:=yF (h.lt k h1) hs
theorem zCx.bel {vs:Sl} {mb:Nat} {gh:Int->Gh} (h:zCx ρ w b s vs mb gh) (hb:Bel w w'):zCx ρ w' b s vs mb gh:=h.keep hb.size λk h1=>hb.block k (h.lt k h1)
theorem zCx.out {S:Nat->Prop} {vs:Sl} {mb:Nat} {gh:Int->Gh} (h:zCx ρ w b s vs mb gh) (hb:Out S w w') (hS:∀ k,S k->ρ k=none):zCx ρ w' b s vs mb gh:=
 h.keep hb.size λk h1=>hb.block k (h.lt k h1) λh2=>h1 (hS k h2)
theorem Mgr.bel (h:Mgr ρ w b s) (hb:Bel w w'):Mgr ρ w' b s:=let ⟨vs,mb,g,m⟩:=h;⟨vs,mb,g,m.bel hb⟩
theorem Mgr.out {S:Nat->Prop} (h:Mgr ρ w b s) (hb:Out S w w') (hS:∀ k,S k->ρ k=none):Mgr ρ w' b s:=let ⟨vs,mb,g,m⟩:=h;⟨vs,mb,g,m.out hb hS⟩
theorem Mgr.lt (h:Mgr ρ w b s):∀ k,ρ k≠none->k<w.heap.size:=let ⟨_,_,_,m⟩:=h;m.lt
end
theorem zMz:zFd zA Zr (zV .i64):=zFd.int (q:=.i64) (by kernel_rfl)
theorem zK7 (x y:Int) (h:zV .i64 x=zV .i64 y):x=y:=by injection h
theorem zJC (x y:ByteArray) (h:zZ x=zZ y):x=y:=by injection h
theorem zLR (x:Option Addr) {w:World} {o1 o2:Operand} {k:Bool->World->Prop} (H:k x.isNone w):opE zA xv (do eqGuard .eql zHn o1 o2 (.pointer x) (.pointer none);binOp .eql zHn (.pointer x) (.pointer none)) w k:=by
 refine ⟨_,w,?_,H⟩
 cases x<;>kernel_rfl
theorem zRs (x:Option Addr) {w:World} {o1 o2:Operand} {k:Bool->World->Prop} (H:k x.isNone w):opE zA xv (do eqGuard .eql zFk o1 o2 (.pointer x) (.pointer none);binOp .eql zFk (.pointer x) (.pointer none)) w k:=by
 refine ⟨_,w,?_,H⟩
 cases x<;>kernel_rfl
end Go.Proofs.YtealcoghiaeiiaaGreat.VG
set_option linter.unusedVariables false
namespace Go.Proofs.YtealcoghiaeiiaaGreat.VG
open Go.VB Go.Proofs Go.RowKit
abbrev ptrA (x:Nat):Option Addr:=some ⟨x,0,none⟩
theorem zTs {κ ν:Type} {ek:κ->Value} {ev:ν->Value} {P:Program} {kt et mt:TypeId} {b:Nat} {f:κ->Option ν} {C:World->Prop} (h:∀ w,C w->zAD ek ev w b f) (K:zFd P kt ek) (hm:P.underlying mt=some (.map kt et)) {z:ν} (hz:∀ w,(zeroValue et).run P w=.ok (ev z) w) (x:κ) {k:ν->Prop} (H:k ((f x).getD z)):
  opC C P ev (Instr.lookup mt (.map (some b)) (ek x) false) k:=⟨_,λw' hb=>(h w' hb).run_look K hm hz x,H⟩
section
variable {ρ:Own} {w:World} {b:Nat} {s:St} {vs:Sl} {mb:Nat} {g:Int->Gh}
theorem zNh (h:zCx ρ w b s vs mb g) (n:Int) {k:Option Addr->Int->World->Prop} (H0:s.tx n=none->k none 11 w) (H1:∀ t,s.tx n=some t->k (ptrA (g n).tb) 0 w):
  Cl zA zKG [.pointer (ptrA b),.int .i64 n].toArray w (λe w'=>∃ (r0:Option Addr) (r1:Int),e=.returned (.tuple [.pointer r0,.int .i64 r1].toArray)/\k r0 r1 w'):=by
 refine zKD (ptrA b) n w k ?_
 unfold zGG
 refine zLR _ ⟨λh=>(nomatch h),λ_=>⟨trivial,?_⟩⟩
 refine yA zBt zBr h.row.at (some mb) rfl ?_
 refine zSd h.mp zMz zBo zNE n ?_
 cases ht:s.tx n with
 |none=>exact zRs _ ⟨λ_=>H0 ht,λh=>(nomatch h)⟩
 |some t=>exact zRs _ ⟨λh=>(nomatch h),λ_=>H1 t ht⟩
theorem zSE (h:zCx ρ w b s vs mb g) {k:Int->World->Prop} (H:k s.now w):Cl zA zJf [.pointer (ptrA b)].toArray w (λe w'=>∃ r0:Int,e=.returned (.int .u64 r0)/\k r0 w'):=by
 refine zJe (ptrA b) w k ?_
 unfold zF4
 refine zLR _ ⟨λh=>(nomatch h),λ_=>⟨trivial,?_⟩⟩
 exact yA Zn yO h.row.at s.now rfl H
end
def zGa (s:St):Tx:=⟨s.now,[],λ_=>none⟩
open Classical in
noncomputable def zFg (s:St):St:={s with given:=s.given+1,tx:=upd s.tx (s.given+1) (zGa s)}
def zMG (ρ:Own) (n:Int) (tb wb:Nat):Own:=λk=>if k=tb then some (.tb n) else if k=wb then some (.wb n) else ρ k
theorem zLF {ρ:Own} {w:World} {b:Nat} {s:St} (h:Mgr ρ w b s) (hg0:0<=s.given) (hg:s.given<4611686018427387904) (hfree:s.tx (s.given+1)=none) {k:Int->Int->World->Prop}
  (H0:∀ ks,Doms s.tx ks->16<=ks.length->k 0 3 w)
  (H1:∀ ks ρ' w',Doms s.tx ks->ks.length<16->Mgr ρ' w' b (zFg s)->Ext ρ w ρ' w'->k (s.given+1) 0 w'):
  Cl zA zGW [.pointer (ptrA b)].toArray w (λe w'=>∃ (r0 r1:Int),e=.returned (.tuple [.int .i64 r0,.int .i64 r1].toArray)/\k r0 r1 w'):=by
 obtain ⟨vs,mb,g,m⟩:=h
 refine zIh (ptrA b) w k ?_
 unfold zE2
 refine zLR _ ⟨λh=>(nomatch h),λ_=>⟨trivial,?_⟩⟩
 refine yA zBt zBr m.row.at (some mb) rfl ?_
 refine zOO m.mp zK7 zBo λks hks=>?_
 have hks':Doms s.tx ks:=⟨hks.1,λn=>by
  rw [hks.2]
  show (∃ v,(s.tx n).map (λ_=>(some ⟨(g n).tb,0,none⟩:Option Addr))=some v)↔_
  constructor
  ·rintro ⟨v,hv⟩
   cases ht:s.tx n with
   |none=>rw [ht] at hv;cases hv
   |some t=>exact ⟨t,rfl⟩
  ·rintro ⟨t,ht⟩;rw [ht];exact ⟨_,rfl⟩⟩
 refine ⟨λhc=>H0 ks hks' (by omega),λhc=>⟨trivial,?_⟩⟩
 refine yA zCJ zAM m.row.at s.given rfl ⟨trivial,?_⟩
 rw [wr64 (by omega) (by omega)]
 refine ⟨_,w,zCJ _ _,?_⟩
 refine zIu zAM m.row rfl (by simp) rfl λw1 hR g1=>?_
 replace hR:Row w1 b [Sl.v vs,.int .u64 s.low,.int .u64 s.now,.int .i64 (s.given+1),.map (some mb)] zAC:=hR
 have hb1:=Ext.grown g1 m.rmg
 have m1:w.heap.size<=w1.heap.size:=g1.size
 refine ⟨λW=>Row W b [Sl.v vs,.int .u64 s.low,.int .u64 s.now,.int .i64 (s.given+1),.map (some mb)] zAC,λw2 b2=>⟨hR.bel b2,trivial,?_⟩⟩
 refine zFW zBt ⟨trivial,?_⟩
 refine zFW zCJ ⟨trivial,?_⟩
 refine zFW Zn ?_
 refine zC3 zBr (some mb) (λW hW=>hW.at.fld rfl) ?_
 refine zC3 zAM (s.given+1) (λW hW=>hW.at.fld rfl) ?_
 refine zC3 yO s.now (λW hW=>hW.at.fld rfl) ?_
 refine zOS (ek:=zZ) (ev:=zJ.v) λhM=>?_
 have b3:=Bel.alloc w2 (.map #[] 0)
 generalize hw3:w2.alloc (.map #[] 0)=w3 at hM b3 ⊢
 have s3:w3.heap.size=w2.heap.size+1:=by rw [← hw3];exact size_alloc' _ _
 refine ⟨(hR.bel b2).bel b3,?_⟩
 refine ⟨⟨s.now,Sl.none,some w2.heap.size⟩,λW _=>by kernel_rfl,?_⟩
 refine zLC (cs:=[.int .u64 s.now,Sl.v Sl.none,.map (some w2.heap.size)]) rfl ?_
 have hT:Row (w3.alloc (.cells [.int .u64 s.now,Sl.v Sl.none,.map (some w2.heap.size)].toArray zBV)) w3.heap.size [.int .u64 s.now,Sl.v Sl.none,.map (some w2.heap.size)] zBV:=Row.new _ _ _
 have b4:=Bel.alloc w3 (.cells [.int .u64 s.now,Sl.v Sl.none,.map (some w2.heap.size)].toArray zBV)
 generalize hw4:w3.alloc (.cells [.int .u64 s.now,Sl.v Sl.none,.map (some w2.heap.size)].toArray zBV)=w4 at hT b4 ⊢
 have s4:w4.heap.size=w3.heap.size+1:=by rw [← hw4];exact size_alloc' _ _
 have hR4:=((hR.bel b2).bel b3).bel b4
 refine ⟨hR4,?_⟩
 have b24:=(b2.trans b3).trans b4
 have hlt:=m.lt
 have s2:=b2.le
 have hmne:mb≠b:=λe=>by have:=m.rom;rw [e,m.rmg] at this;cases this
 have hmp4:zAD (zV .i64) zB w4 mb (λn=>(s.tx n).map λ_=>some ⟨(g n).tb,0,none⟩):=(m.mp.grown g1 (by simpa using hmne.symm)).bel b24
 refine zQN hmp4 zMz zBo (s.given+1) (ptrA w3.heap.size) λw5 hM5 g5=>?_
 have hR5:=hR4.grown g5 (by simpa using hmne)
 refine ⟨hR5,trivial,?_⟩
 have hE:Ext ρ w ρ w5:=(hb1.trans (Ext.bel b24)).trans (Ext.grown g5 m.rom)
 have s5:=g5.size
 have hlow:∀ k,ρ k≠none->k≠w3.heap.size/\k≠w2.heap.size:=λk hk=>by have:=hlt k hk;omega
 have hρ:∀ k,k<w.heap.size->zMG ρ (s.given+1) w3.heap.size w2.heap.size k=ρ k:=λk hk=>by
  unfold zMG;rw [if_neg (by omega),if_neg (by omega)]
 have hkeep:∀ k r,ρ k=some r->r≠.mg->r≠.om->w5.heap[k]?=w.heap[k]?:=λk r hk h1 h2=>by
  have hkl:=hlt k (by rw [hk];simp)
  have e1:k≠b:=λe=>by rw [e,m.rmg] at hk;cases hk;exact h1 rfl
  have e2:k≠mb:=λe=>by rw [e,m.rom] at hk;cases hk;exact h2 rfl
  rw [g5.block k (by have:=b24.le;omega) (by simpa using e2),b24.block k (by omega),g1.block k hkl (by simpa using e1)]
 refine yA zCJ zAM hR5.at (s.given+1) rfl ?_
 refine H1 ks (zMG ρ (s.given+1) w3.heap.size w2.heap.size) w5 hks' (by omega) ⟨vs,mb,λn=>if n=s.given+1 then ⟨w3.heap.size,w2.heap.size,Sl.none⟩ else g n,?_⟩ ⟨hE.out,hρ⟩
 exact {
  row:=hR5
  rmg:=(hρ b (hlt b (by rw [m.rmg];simp))).trans m.rmg
  vers:=m.vers.keep λk hk=>hkeep k .ve (m.rve k hk) (by simp) (by simp)
  rve:=λk hk=>(hρ k (hlt k (by rw [m.rve k hk];simp))).trans (m.rve k hk)
  mp:=by
   have:(λn=>((zFg s).tx n).map λ_=>(some ⟨(if n=s.given+1 then ⟨w3.heap.size,w2.heap.size,Sl.none⟩ else g n:Gh).tb,0,none⟩:Option Addr))=upd (λn=>(s.tx n).map λ_=>(some ⟨(g n).tb,0,none⟩:Option Addr)) (s.given+1) (ptrA w3.heap.size):=by
    funext n
    unfold zFg
    by_cases hn:n=s.given+1
    ·subst hn;simp [Ql]
    ·simp [yU _ _ hn,hn]
   rw [this];exact hM5
  rom:=(hρ mb (hlt mb (by rw [m.rom];simp))).trans m.rom
  tx:=λn t ht=>by
   unfold zFg at ht
   by_cases hn:n=s.given+1
   ·subst hn
    simp only [Ql] at ht
    cases ht
    simp only [if_true]
    have e3:w3.heap.size≠mb:=by have:=hlt mb (by rw [m.rom];simp);omega
    have e2:w2.heap.size≠mb:=by have:=hlt mb (by rw [m.rom];simp);omega
    exact {
     row:=hT.grown g5 (by simpa using e3.symm)
     rtb:=by simp [zMG]
     rd:=OwnS.nil _ _ _ _ _
     rrd:=λk hk=>by cases hk
     wr:=(hM.bel b4).grown g5 (by simpa using e2.symm)
     rwb:=by simp only [zMG];rw [if_neg (by omega),if_pos trivial]}
   ·simp only [yU _ _ hn] at ht
    simp only [if_neg hn]
    exact (m.tx n t ht).keep hlt hρ (λk hk=>hkeep k _ hk (by simp) (by simp)) (λk hk=>hkeep k _ hk (by simp) (by simp)) (λk hk=>hkeep k _ hk (by simp) (by simp))
  lt:=λk hk=>by
   unfold zMG at hk
   split at hk
   ·rename_i e;subst e;omega
   ·split at hk
    ·rename_i e;subst e;omega
    ·have:=hlt k hk;have:=b24.le;omega}
end Go.Proofs.YtealcoghiaeiiaaGreat.VG
set_option linter.unusedVariables false
namespace Go.Proofs.YtealcoghiaeiiaaGreat.VG
open Go.VB Go.Proofs Go.RowKit
theorem zNc {κ ν:Type} {ek:κ->Value} {ev:ν->Value} {P:Program} {kt et mt:TypeId} {b:Nat} {f:κ->Option ν} {C:World->Prop} (h:∀ w,C w->zAD ek ev w b f) (K:zFd P kt ek) (hm:P.underlying mt=some (.map kt et)) {z:ν} (hz:∀ w,(zeroValue et).run P w=.ok (ev z) w) (x:κ) {k:ν × Bool->Prop} (H:k ((f x).getD z,(f x).isSome)):
  opC C P (λp:ν × Bool=>.tuple [ev p.1,.bool p.2].toArray) (Instr.lookup mt (.map (some b)) (ek x) true) k:=⟨_,λw' hb=>(h w' hb).run_lookOk K hm hz x,H⟩
theorem zQp {κ ν:Type} {ek:κ->Value} {ev:ν->Value} {P:Program} {kt et mt:TypeId} {b:Nat} {f:κ->Option ν} {w:World} (h:zAD ek ev w b f) (K:zFd P kt ek) (hm:P.underlying mt=some (.map kt et)) {z:ν} (hz:∀ w,(zeroValue et).run P w=.ok (ev z) w) (x:κ) {k:ν × Bool->World->Prop} (H:k ((f x).getD z,(f x).isSome) w):
  opE P (λp:ν × Bool=>.tuple [ev p.1,.bool p.2].toArray) (Instr.lookup mt (.map (some b)) (ek x) true) w k:=⟨_,w,h.run_lookOk K hm hz x,H⟩
abbrev zNA:Wri:=⟨noB,noB,false⟩
open Classical in
noncomputable def setTx (s:St) (n:Int) (t:Tx):St:={s with tx:=upd s.tx n t}
open Classical in
theorem zCx.setTx {ρ ρ':Own} {w w':World} {b:Nat} {s:St} {vs:Sl} {mb:Nat} {g:Int->Gh} (h:zCx ρ w b s vs mb g) {n:Int} {t t':Tx} (ht:s.tx n=some t) {g':Gh} (hg:g'.tb=(g n).tb)
  (hρ:∀ k,k<w.heap.size->ρ' k=ρ k) (hlt:∀ k,ρ' k≠none->k<w'.heap.size) (hk:∀ k r,ρ k=some r->r≠.tb n->r≠.wb n->r≠.rb n->w'.heap[k]?=w.heap[k]?) (ht':TxAt ρ' w' n t' g'):
  zCx ρ' w' b (setTx s n t') vs mb (λm=>if m=n then g' else g m) where
 row:=h.row.keep (hk b _ h.rmg (by simp) (by simp) (by simp))
 rmg:=(hρ b (h.lt b (by rw [h.rmg];simp))).trans h.rmg
 vers:=h.vers.keep λk h1=>hk k _ (h.rve k h1) (by simp) (by simp) (by simp)
 rve k h1:=(hρ k (h.lt k (by rw [h.rve k h1];simp))).trans (h.rve k h1)
 mp:=by
  have:(λm=>((VG.setTx s n t').tx m).map λ_=>(some ⟨(if m=n then g' else g m:Gh).tb,0,none⟩:Option Addr))=(λm=>(s.tx m).map λ_=>(some ⟨(g m).tb,0,none⟩:Option Addr)):=by
   funext m
   unfold VG.setTx
   by_cases hm:m=n
   ·subst hm;simp [Ql,ht,hg]
   ·simp [yU _ _ hm,hm]
  rw [this]
  exact h.mp.keep (hk mb _ h.rom (by simp) (by simp) (by simp))
 rom:=(hρ mb (h.lt mb (by rw [h.rom];simp))).trans h.rom
 tx m u hu:=by
  by_cases hm:m=n
  ·subst hm
   simp only [VG.setTx,Ql] at hu;cases hu
   simp only [if_true];exact ht'
  ·simp only [VG.setTx,yU _ _ hm] at hu
   simp only [if_neg hm]
   exact (h.tx m u hu).keep h.lt hρ (λk h1=>hk k _ h1 (by simp [hm]) (by simp) (by simp)) (λk h1=>hk k _ h1 (by simp) (by simp [hm]) (by simp)) (λk h1=>hk k _ h1 (by simp) (by simp) (by simp [hm]))
 lt:=hlt
noncomputable def putW (t:Tx) (x:Wri):Tx:={t with wr:=upd t.wr x.Key x}
theorem zLO {ρ:Own} {w:World} {b:Nat} {s:St} (h:Mgr ρ w b s) (n:Int) (x:Wri) {k:Int->World->Prop}
  (H0:s.tx n=none->∀ w',Bel w w'->k 11 w')
  (H1:∀ t,s.tx n=some t->zBn x->∀ w',Bel w w'->k 4 w')
  (H2:∀ t ks,s.tx n=some t->¬ zBn x->t.wr x.Key=none->Doms t.wr ks->256<=ks.length->∀ w',Bel w w'->k 3 w')
  (H3:∀ t w',s.tx n=some t->¬ zBn x->(t.wr x.Key=none->∃ ks,Doms t.wr ks/\ks.length<256)->Mgr ρ w' b (setTx s n (putW t x))->Ext ρ w ρ w'->k 0 w'):
  Cl zA zCg [.pointer (ptrA b),.int .i64 n,zJ.v x].toArray w (λe w'=>∃ r0:Int,e=.returned (.int .i64 r0)/\k r0 w'):=by
 obtain ⟨vs,mb,g,m⟩:=h
 refine zIs (ptrA b) n x w k ?_
 unfold zEx
 refine zAo (cs:=x.cells) rfl λB w1 b1 hX hB=>?_
 refine zNh (m.bel b1) n (λht=>⟨λ_=>H0 ht w1 b1,λh=>absurd (by decide) h⟩) λt ht=>⟨λh=>absurd rfl h,λ_=>?_⟩
 have mt:=m.tx n t ht
 have hrow:=mt.row.bel b1
 have hwr:=mt.wr.bel b1
 refine ⟨Bel w1,λu bu=>⟨bu,trivial,?_⟩⟩
 refine zFW zAc ?_
 refine zFW xm ?_
 refine zC3 Qs (some (g n).wb) (λW hW=>(hrow.bel hW).at.fld rfl) ?_
 refine zC3 zh x.Key (λW hW=>(hX.bel hW).at.fld rfl) ?_
 refine zNc (z:=zNA) (λW hW=>hwr.bel hW) zJD Yf zIA x.Key ?_
 refine zFL zBl λC w2 b2 hZ hC=>?_
 refine ⟨bu.trans b2,?_⟩
 refine zI1 QR hZ rfl rfl rfl λw3 hZ3 g3=>?_
 have b13:Bel w1 w3:=(bu.trans b2).grown g3 λr hr=>by cases hr;have:=bu.le;omega
 refine ⟨b13,?_⟩
 have hX3:=hX.bel b13
 refine yA xm zh hX3.at x.Key rfl ?_
 have b03:=b1.trans b13
 have J3:∀ W (c:Bool),Bel w W->Row W B x.cells ZB->¬ zBn x->(c=true->∃ ks,t.wr x.Key=none/\Doms t.wr ks/\256<=ks.length)->(c=false->t.wr x.Key=none->∃ ks,Doms t.wr ks/\ks.length<256)->zAT k (ptrA B) (ptrA (g n).tb) c W:=by
  intro W c hb hXW hl hc1 hc0
  unfold zAT
  refine ⟨λhc=>?_,λhc=>?_⟩
  ·obtain ⟨ks,h1,h2,h3⟩:=hc1 hc
   exact H2 t ks ht hl h1 h2 h3 W hb
  ·refine ⟨λW'=>Row W' (g n).tb [.int .u64 t.began,Sl.v (g n).rs,.map (some (g n).wb)] zBV/\Row W' B x.cells ZB,λu bu2=>?_⟩
   have hbu:=hb.trans bu2
   have hT:=mt.row.bel hbu
   refine ⟨⟨hT,hXW.bel bu2⟩,trivial,?_⟩
   refine zFW zAc ?_
   refine zFW xm ?_
   refine zC3 Qs (some (g n).wb) (λW hW=>hW.1.at.fld rfl) ?_
   refine zC3 zh x.Key (λW hW=>hW.2.at.fld rfl) ?_
   refine zL0 QR x rfl (λW hW=>hW.2.at) rfl ?_
   refine zQN (mt.wr.bel hbu) zJD Yf x.Key x λw5 hM5 g5=>?_
   have htw:(g n).tb≠(g n).wb:=λe=>by have:=mt.rtb;rw [e,mt.rwb] at this;cases this
   have hltw:=m.lt (g n).wb (by rw [mt.rwb];simp)
   have hBw:B≠(g n).wb:=by omega
   have hT5:=hT.grown g5 (by simpa using htw.symm)
   refine ⟨⟨hT5,(hXW.bel bu2).grown g5 (by simpa using hBw.symm)⟩,?_⟩
   have hE:=(Ext.bel hbu).trans (Ext.grown g5 mt.rwb)
   have hkeep:∀ k,ρ k≠none->k≠(g n).wb->w5.heap[k]?=w.heap[k]?:=λk hk hne=>by
    have:=m.lt k hk
    rw [g5.block k (by have:=hbu.le;omega) (by simpa using hne),hbu.block k this]
   refine H3 t w5 ht hl (hc0 hc) ⟨vs,mb,_,m.setTx ht (g':=g n) rfl (λ_ _=>rfl) (λk hk=>by have:=m.lt k hk;have:=hE.out.size;omega) (λk r hk h1 h2 h3=>hkeep k (by rw [hk];simp) λe=>?_) ?_⟩ hE
   ·rw [e,mt.rwb] at hk;cases hk;exact h2 rfl
   ·exact {
     row:=hT5
     rtb:=mt.rtb
     rd:=mt.rd.keep λk hk=>hkeep k (by rw [mt.rrd k hk];simp) λe=>by have:=mt.rrd k hk;rw [e,mt.rwb] at this;cases this
     rrd:=mt.rrd
     wr:=hM5
     rwb:=mt.rwb}
 have J2:∀ W (c:Bool),Bel w W->Row W B x.cells ZB->(c=true↔zBn x)->zAS k (ptrA B) (ptrA (g n).tb) ((t.wr x.Key).getD zNA,(t.wr x.Key).isSome) c W:=by
  intro W c hb hXW hc
  unfold zAS
  refine ⟨λh1=>H1 t ht (hc.1 h1) W hb,λh1=>?_⟩
  have hl:¬ zBn x:=λh2=>by rw [hc.2 h2] at h1;cases h1
  refine ⟨λh2=>⟨trivial,?_⟩,λh2=>?_⟩
  ·have hno:t.wr x.Key=none:=by
    cases hx:t.wr x.Key with
    |none=>rfl
    |some y=>rw [hx] at h2;simp at h2
   refine yA zAc Qs (mt.row.bel hb).at (some (g n).wb) rfl ?_
   refine zOO (mt.wr.bel hb) zJC Yf λks hks=>?_
   refine J3 W _ hb hXW hl (λh3=>⟨ks,hno,hks,by have:=of_decide_eq_true h3;omega⟩) λh3 _=>⟨ks,hks,by have:=of_decide_eq_false h3;omega⟩
  ·refine J3 W false hb hXW hl (λh=>(nomatch h)) λ_ hno=>?_
   rw [hno] at h2;simp at h2
 refine ⟨λhc=>J2 w3 true b03 hX3 ⟨λ_=>.inl (by omega),λ_=>rfl⟩,λhc=>?_⟩
 refine yA zBR zh hX3.at x.Val rfl ?_
 refine J2 w3 _ b03 hX3 ?_
 unfold zBn
 simp only [decide_eq_true_eq]
 omega
section
variable {ρ:Own} {w:World} {b:Nat} {s:St}
theorem zN1 (n:Int) (key val:ByteArray) {p:Option Addr} {k:Int->World->Prop} (H:Cl zA zCg [.pointer p,.int .i64 n,zJ.v ⟨key,val,false⟩].toArray w (λe w'=>∃ r0:Int,e=.returned (.int .i64 r0)/\k r0 w')):
  Cl zA zGz [.pointer p,.int .i64 n,.string key,.string val].toArray w (λe w'=>∃ r0:Int,e=.returned (.int .i64 r0)/\k r0 w'):=by
 refine zJl p n key val w k ?_
 unfold zF5
 exact ⟨⟨key,val,false⟩,w,by kernel_rfl,H⟩
theorem zPk (n:Int) (key:ByteArray) {p:Option Addr} {k:Int->World->Prop} (H:Cl zA zCg [.pointer p,.int .i64 n,zJ.v ⟨key,noB,true⟩].toArray w (λe w'=>∃ r0:Int,e=.returned (.int .i64 r0)/\k r0 w')):
  Cl zA zGA [.pointer p,.int .i64 n,.string key].toArray w (λe w'=>∃ r0:Int,e=.returned (.int .i64 r0)/\k r0 w'):=by
 refine zIR p n key w k ?_
 unfold zEC
 exact ⟨⟨key,noB,true⟩,w,by kernel_rfl,H⟩
end
end Go.Proofs.YtealcoghiaeiiaaGreat.VG
set_option linter.unusedVariables false
namespace Go.Proofs.YtealcoghiaeiiaaGreat.VG
open Go.VB Go.Proofs Go.RowKit
def addR (t:Tx) (x:Spn):Tx:={t with reads:=t.reads++[x]}
theorem zPK {ρ:Own} {w:World} {b:Nat} {s:St} {vs:Sl} {mb:Nat} {g:Int->Gh} (m:zCx ρ w b s vs mb g) {n:Int} {t:Tx} (ht:s.tx n=some t) (hroom:t.reads.length<1000) (x:Spn) {k:World->Prop}
  (H:∀ ρ' w' g',(g' n).tb=(g n).tb->(g' n).wb=(g n).wb->zCx ρ' w' b (setTx s n (addR t x)) vs mb g'->Ext ρ w ρ' w'->k w'):
  opE zA Sl.v (ze zE8 1 [(0,yD.v x)].toArray) w (λy w=>opE zA Sl.v (Builtin.append_ #[zE8,zE8] zE8 [Sl.v (g n).rs,Sl.v y].toArray) w (λz w=>
   Qg (.pointer (ptrA (g n).tb))/\opE zA zB (zN zBV (.pointer (ptrA (g n).tb)) 1) w (λq w=>opU zA (zK zE8 (.pointer q) (Sl.v z)) w k))):=by
 have mt:=m.tx n t ht
 refine zOt mt.rd (λ_=>rfl) (λ_=>rfl) (by decide) zHC zII rfl (by decide) (zIX x) (Nat.zero_le _) (by omega) λz w1 hO g1 hq=>⟨trivial,?_⟩
 have hrow1:Row w1 (g n).tb [.int .u64 t.began,Sl.v (g n).rs,.map (some (g n).wb)] zBV:=mt.row.grown g1 λe=>by
  have:=mt.rrd _ e;rw [mt.rtb] at this;cases this
 refine ⟨_,w1,zBh _ _,?_⟩
 refine zIu zCH hrow1 (by cases z with|mk a l c=>cases a<;>rfl) (by simp) (by cases z with|mk a l c=>cases a<;>rfl) λw2 hR g2=>?_
 replace hR:Row w2 (g n).tb [.int .u64 t.began,Sl.v z,.map (some (g n).wb)] zBV:=hR
 have hzt:(Sl.v z).ownBlock≠some (g n).tb:=OwnS.ne_row hO hrow1 (by decide)
 have hO2:=hO.kept g2 (.inr hzt)
 let ρ':Own:=λk=>if (Sl.v z).ownBlock=some k then some (.rb n) else ρ k
 have hρ:∀ k,k<w.heap.size->ρ' k=ρ k:=λk hk=>by
  show (if (Sl.v z).ownBlock=some k then _ else _)=_
  split
  ·rename_i e
   rcases hq k e with h1|h1
   ·exact (mt.rrd k h1).symm
   ·omega
  ·rfl
 have hs1:=g1.size
 have hs2:=g2.size
 have hkeep:∀ k r,ρ k=some r->r≠.tb n->r≠.rb n->w2.heap[k]?=w.heap[k]?:=λk r hk h1 h2=>by
  have hkl:=m.lt k (by rw [hk];simp)
  rw [g2.block k (by omega) λe=>by injection e with e;rw [e,mt.rtb] at hk;cases hk;exact h1 rfl,g1.block k hkl λe=>by
   have:=mt.rrd k e.symm;rw [hk] at this;cases this;exact h2 rfl]
 have hE:Ext ρ w ρ' w2:=⟨(Out.row (S:=λk=>ρ k≠none) g1 λk hk=>.inl (by show ρ k≠none;rw [mt.rrd k hk];simp)).trans (Out.row (S:=λk=>ρ k≠none) g2 λk hk=>by cases hk;exact .inl (by show ρ _≠none;rw [mt.rtb];simp)) λ_ _ h=>h,hρ⟩
 refine H ρ' w2 (λm=>if m=n then ⟨(g n).tb,(g n).wb,z⟩ else g m) (by simp) (by simp) (m.setTx ht rfl hρ (λk hk=>?_) (λk r hk h1 h2 h3=>hkeep k r hk h1 h3) ?_) hE
 ·by_cases e:(Sl.v z).ownBlock=some k
  ·exact hO2.lt e
  ·have:ρ k≠none:=by
    have h1:(if (Sl.v z).ownBlock=some k then some (Role.rb n) else ρ k)≠none:=hk
    rw [if_neg e] at h1;exact h1
   have:=m.lt k this;omega
 ·exact {
   row:=hR
   rtb:=(hρ _ (m.lt _ (by rw [mt.rtb];simp))).trans mt.rtb
   rd:=hO2
   rrd:=λk hk=>by show (if (Sl.v z).ownBlock=some k then _ else _)=_;rw [if_pos hk]
   wr:=mt.wr.keep (hkeep _ _ mt.rwb (by simp) (by simp))
   rwb:=(hρ _ (m.lt _ (by rw [mt.rwb];simp))).trans mt.rwb}
noncomputable def tget (s:St) (t:Tx) (key:ByteArray):ByteArray × Bool × Int:=match t.wr key with
 |some x=>(x.Val,!x.Gone,0)
 |none=>vget s.l s.low key t.began
abbrev zHP (key:ByteArray):Spn:=⟨key,noB,true⟩
theorem zOR {ρ:Own} {w:World} {b:Nat} {s:St} (h:Mgr ρ w b s) (n:Int) (key:ByteArray) {k:ByteArray->Bool->Int->World->Prop}
  (H0:s.tx n=none->k noB false 11 w)
  (H1:∀ t,s.tx n=some t->256<key.size->k noB false 4 w)
  (H2:∀ t,s.tx n=some t->¬ 256<key.size->256<=t.reads.length->k noB false 3 w)
  (H3:∀ t ρ' w',s.tx n=some t->¬ 256<key.size->t.reads.length<256->Mgr ρ' w' b (setTx s n (addR t (zHP key)))->Ext ρ w ρ' w'->k (tget s t key).1 (tget s t key).2.1 (tget s t key).2.2 w'):
  Cl zA zGs [.pointer (ptrA b),.int .i64 n,.string key].toArray w (λe w'=>∃ (r0:ByteArray) (r1:Bool) (r2:Int),e=.returned (.tuple [.string r0,.bool r1,.int .i64 r2].toArray)/\k r0 r1 r2 w'):=by
 obtain ⟨vs,mb,g,m⟩:=h
 refine zJv (ptrA b) n key w k ?_
 unfold zFt
 refine zNh m n (λht=>⟨λ_=>H0 ht,λh=>absurd (by decide) h⟩) λt ht=>⟨λh=>absurd rfl h,λ_=>⟨λhl=>H1 t ht (by omega),λhl=>⟨trivial,?_⟩⟩⟩
 have mt:=m.tx n t ht
 have hrl:=mt.rd.len
 refine yA zBh zCH mt.row.at (g n).rs rfl ?_
 refine ⟨λhc=>H2 t ht (by omega) (by omega),λhc=>⟨trivial,?_⟩⟩
 refine yA zBh zCH mt.row.at (g n).rs rfl ?_
 refine ⟨zHP key,w,by kernel_rfl,?_⟩
 refine zPK m ht (by omega) (zHP key) λρ' w1 g' eg ew m1 hE=>⟨trivial,?_⟩
 have ht1:(setTx s n (addR t (zHP key))).tx n=some (addR t (zHP key)):=by simp [setTx,Ql]
 have mt1:=m1.tx n _ ht1
 have fin:∀ W,Bel w1 W->k (tget s t key).1 (tget s t key).2.1 (tget s t key).2.2 W:=λW hW=>H3 t ρ' W ht (by omega) (by omega) ⟨vs,mb,g',m1.bel hW⟩ (hE.trans (Ext.bel hW))
 have hT1:Row w1 (g n).tb [.int .u64 t.began,Sl.v (g' n).rs,.map (some (g n).wb)] zBV:=by have:=mt1.row;rw [eg,ew] at this;exact this
 have hM1:zAD zZ zJ.v w1 (g n).wb t.wr:=by have:=mt1.wr;rw [ew] at this;exact this
 refine yA zAc Qs hT1.at (some (g n).wb) rfl ?_
 refine zQp (z:=zNA) hM1 zJD Yf zIA key ?_
 refine zBa zBl rfl QR (cs:=((t.wr key).getD zNA).cells) rfl rfl rfl λC w2 b2 hX _=>?_
 refine ⟨λhi=>?_,λhi=>⟨trivial,?_⟩⟩
 ·obtain ⟨x,hx⟩:=Option.isSome_iff_exists.1 hi
  have hv:tget s t key=(x.Val,!x.Gone,0):=by unfold tget;rw [hx]
  rw [hx] at hX
  refine zGV zBR zh hX.at x.Val rfl ?_
  refine zGV zCI zDR hX.at x.Gone rfl ?_
  intro w3 b3
  have:=fin w3 (b2.trans b3)
  rw [hv] at this;exact this
 ·have hno:t.wr key=none:=by
   cases hx:t.wr key with
   |none=>rfl
   |some y=>rw [hx] at hi;simp at hi
  have hv:tget s t key=vget s.l s.low key t.began:=by unfold tget;rw [hno]
  have m2:=m1.bel b2
  refine ⟨_,λW hW=>xb _ _,?_⟩
  refine zI2 yC (cs:=[Sl.v vs,.int .u64 s.low]) ⟨vs,s.low⟩ rfl (λj v hj=>by
   have h1:=m2.row.at
   rw [zGQ]
   refine h1 (0+j) v ?_
   match j,hj with
   |0,hj=>exact hj
   |1,hj=>exact hj) rfl ⟨trivial,?_⟩
  refine zGV zEY yO (hT1.bel b2).at t.began rfl ?_
  refine ⟨(vget s.l s.low key t.began).1,(vget s.l s.low key t.began).2.1,(vget s.l s.low key t.began).2.2,λW hW=>?_,?_⟩
  ·refine (zRN (x0:=⟨vs,s.low⟩) (m2.vers.bel hW) key t.began (k:=λa c d w'=>a=(vget s.l s.low key t.began).1/\c=(vget s.l s.low key t.began).2.1/\d=(vget s.l s.low key t.began).2.2/\Bel W w') λw' hb=>⟨rfl,rfl,rfl,hb⟩).mono λe w' ⟨a,c,d,he,h1,h2,h3,h4⟩=>?_
   subst h1;subst h2;subst h3
   exact ⟨he,h4⟩
  ·intro w3 b3
   have:=fin w3 (b2.trans b3)
   rw [hv] at this;exact this
end Go.Proofs.YtealcoghiaeiiaaGreat.VG
set_option linter.unusedVariables false
namespace Go.Proofs.YtealcoghiaeiiaaGreat.VG
open Go.VB Go.Proofs Go.RowKit
theorem zGT {α:Type}:∀ {l m:List α},l.Nodup->(∀ x∈l,x∈m)->l.length<=m.length:=by
 intro l m hl h
 classical
 induction l generalizing m with
 |nil=>simp
 |cons a l ih=>
  obtain ⟨h1,h2⟩:=List.nodup_cons.1 hl
  have ha:a∈m:=h a (by simp)
  have:=ih (m:=m.erase a) h2 λx hx=>(List.mem_erase_of_ne (λe=>h1 (by rw [← e];exact hx))).2 (h x (by simp [hx]))
  rw [List.length_erase_of_mem ha] at this
  have:0<m.length:=List.length_pos_of_mem ha
  simp only [List.length_cons];omega
noncomputable def delTx (s:St) (n:Int):St:={s with tx:=del s.tx n}
structure zHM (s:St) (lo:Int):Prop where
 now:lo<=s.now
 all:∀ n t,s.tx n=some t->lo<=t.began
 hit:lo=s.now∨∃ n t,s.tx n=some t/\lo=t.began
theorem zHM.le {s:St} {a c:Int} (h:zHM s a) (k:zHM s c):a<=c:=by
 rcases k.hit with e|⟨n,t,h1,e⟩
 ·rw [e];exact h.now
 ·rw [e];exact h.all n t h1
theorem zHM.one {s:St} {a c:Int} (h:zHM s a) (k:zHM s c):a=c:=Int.le_antisymm (h.le k) (k.le h)
open Classical in
noncomputable def zLV (s:St):Int:=if h:∃ lo,zHM s lo then h.choose else 0
theorem zHM.eq {s:St} {lo:Int} (h:zHM s lo):lo=zLV s:=by
 have:∃ lo,zHM s lo:=⟨lo,h⟩
 unfold zLV;rw [dif_pos this]
 exact h.one this.choose_spec
noncomputable def zKH (s:St):St:=if (zDh s.l s.low (zLV s)).2.2=0 then {s with l:=(zDh s.l s.low (zLV s)).1,low:=(zDh s.l s.low (zLV s)).2.1} else s
noncomputable def zAB (s:St) (n:Int):St:=zKH (delTx s n)
section
variable {ρ:Own} {w w':World} {b:Nat} {s:St} {vs:Sl} {mb:Nat} {g:Int->Gh}
theorem zCx.versAt (m:zCx ρ w b s vs mb g):At w ((⟨b,0,none⟩:Addr).add 0) [Sl.v vs,.int .u64 s.low]:=λj v hj=>by
 have h1:=m.row.at
 rw [zGQ]
 refine h1 (0+j) v ?_
 match j,hj with
 |0,hj=>exact hj
 |1,hj=>exact hj
theorem zCx.delTx (m:zCx ρ w b s vs mb g) (n:Int) (hM:zAD (zV .i64) zB w' mb (del (λn=>(s.tx n).map λ_=>(some ⟨(g n).tb,0,none⟩:Option Addr)) n)) (hg:w.grownBy w' (some mb)):zCx ρ w' b (delTx s n) vs mb g:=by
 have hkeep:∀ k r,ρ k=some r->r≠.om->w'.heap[k]?=w.heap[k]?:=λk r hk h1=>hg.block k (m.lt k (by rw [hk];simp)) λe=>by injection e with e;rw [e,m.rom] at hk;cases hk;exact h1 rfl
 exact {
  row:=m.row.keep (hkeep _ _ m.rmg (by simp))
  rmg:=m.rmg
  vers:=m.vers.keep λk hk=>hkeep k _ (m.rve k hk) (by simp)
  rve:=m.rve
  mp:=by
   have:(λk=>((VG.delTx s n).tx k).map λ_=>(some ⟨(g k).tb,0,none⟩:Option Addr))=del (λn=>(s.tx n).map λ_=>(some ⟨(g n).tb,0,none⟩:Option Addr)) n:=by
    funext k
    unfold VG.delTx
    by_cases hk:k=n
    ·subst hk;simp [zEU]
    ·simp [zBv _ hk]
   rw [this];exact hM
  rom:=m.rom
  tx:=λk t ht=>by
   have hk:k≠n:=λe=>by subst e;simp [VG.delTx,zEU] at ht
   have ht':s.tx k=some t:=by simpa [VG.delTx,zBv _ hk] using ht
   exact (m.tx k t ht').keep m.lt (λ_ _=>rfl) (λj h1=>hkeep j _ h1 (by simp)) (λj h1=>hkeep j _ h1 (by simp)) (λj h1=>hkeep j _ h1 (by simp))
  lt:=λk hk=>yF (m.lt k hk) hg.size}
theorem zCx.setVers (m:zCx ρ w b s vs mb g) {r:Sl} {l:List Ver} {low now:Int} (hr:zFF w r l) (hnew:∀ k,(Sl.v r).ownBlock=some k->k<w.heap.size/\ρ k=none) (hg:w.grownBy w' (some b))
  (hR:Row w' b [Sl.v r,.int .u64 low,.int .u64 now,.int .i64 s.given,.map (some mb)] zAC):
  zCx (λk=>if (Sl.v r).ownBlock=some k then some .ve else ρ k) w' b {s with l:=l,low:=low,now:=now} r mb g:=by
 have hsz:=hg.size
 have hold:∀ k r',ρ k=some r'->(if (Sl.v r).ownBlock=some k then some Role.ve else ρ k)=some r':=λk r' hk=>by
  split
  ·rename_i e;rw [(hnew k e).2] at hk;cases hk
  ·exact hk
 have hkeep:∀ k r,ρ k=some r->r≠.mg->w'.heap[k]?=w.heap[k]?:=λk r hk h1=>hg.block k (m.lt k (by rw [hk];simp)) λe=>by injection e with e;rw [e,m.rmg] at hk;cases hk;exact h1 rfl
 exact {
  row:=hR
  rmg:=hold _ _ m.rmg
  vers:=hr.keep λk hk=>hg.block k (hnew k hk).1 λe=>by injection e with e;have:=(hnew k hk).2;rw [e,m.rmg] at this;cases this
  rve:=λk hk=>if_pos hk
  mp:=m.mp.keep (hkeep _ _ m.rom (by simp))
  rom:=hold _ _ m.rom
  tx:=λk t ht=>by
   have h:=m.tx k t ht
   exact {
    row:=h.row.keep (hkeep _ _ h.rtb (by simp))
    rtb:=hold _ _ h.rtb
    rd:=h.rd.keep λj hj=>hkeep j _ (h.rrd j hj) (by simp)
    rrd:=λj hj=>hold _ _ (h.rrd j hj)
    wr:=h.wr.keep (hkeep _ _ h.rwb (by simp))
    rwb:=hold _ _ h.rwb}
  lt:=λk hk=>by
   by_cases e:(Sl.v r).ownBlock=some k
   ·have:=(hnew k e).1;omega
   ·have h1:(if (Sl.v r).ownBlock=some k then some Role.ve else ρ k)≠none:=hk
    rw [if_neg e] at h1
    have:=m.lt k h1;omega}
theorem zQ0 (h:Mgr ρ w b s) (n:Int) {Ret:World->Prop} (H:∀ ρ' w',Mgr ρ' w' b (zAB s n)->Ext ρ w ρ' w'->Ret w'):zBf (ptrA b) n w Ret:=by
 obtain ⟨vs,mb,g,m⟩:=h
 unfold zBf
 refine ⟨trivial,?_⟩
 refine yA zBt zBr m.row.at (some mb) rfl ?_
 refine zTE m.mp zMz zBo n λw1 hM g1=>?_
 have m1:=m.delTx n hM g1
 have hE1:Ext ρ w ρ w1:=Ext.grown g1 m.rom
 unfold zAB at H
 generalize VG.delTx s n=s1 at m1 H
 refine ⟨trivial,?_⟩
 refine yA Zn yO m1.row.at s1.now rfl ⟨trivial,?_⟩
 refine yA zBt zBr m1.row.at (some mb) rfl ?_
 obtain ⟨es,c,mAt⟩:=m1.mp
 obtain ⟨dom,hdom,_⟩:=mAt.doms zK7
 clear mAt
 refine zQ9 m1.mp zBo λw2 hi b2=>?_
 have hmb:mb<w1.heap.size:=m1.mp.lt
 generalize hR:w1.heap.size=R at hi hmb ⊢
 refine ⟨λx W=>∃ ks,zBM (zV .i64) zB W mb R (λn=>(s1.tx n).map λ_=>some ⟨(g n).tb,0,none⟩) ks/\Bel w1 W/\x<=s1.now/\(∀ k∈ks,∀ t,s1.tx k=some t->x<=t.began)/\(x=s1.now∨∃ k t,k∈ks/\s1.tx k=some t/\x=t.began),λ_ W=>dom.length - zH6 W R,⟨[],hi,b2,Int.le_refl _,by simp,.inl rfl⟩,?_⟩
 rintro x W ⟨ks,hi1,hb1,hx1,hx2,hx3⟩
 unfold zAP
 refine zN4 hi1 (by omega) zK7 (λhall=>?_) λy v W2 hy hn hi2 hg=>?_
 ·refine ⟨λ_=>⟨trivial,?_⟩,λk v e=>by cases e⟩
  have hlow:x=zLV s1:=zHM.eq ⟨hx1,λk t ht=>hx2 k (hall k (some ⟨(g k).tb,0,none⟩) (by rw [ht];rfl)) t ht,by
   rcases hx3 with h|⟨k,t,_,h1,h2⟩
   ·exact .inl h
   ·exact .inr ⟨k,t,h1,h2⟩⟩
  have mW:=m1.bel hb1
  have hEW:=hE1.trans (Ext.bel hb1)
  refine ⟨_,W,xb _ _,?_⟩
  refine Za yC (cs:=[Sl.v vs,.int .u64 s1.low]) ⟨vs,s1.low⟩ rfl mW.versAt rfl ?_
  refine zPc (x0:=⟨vs,s1.low⟩) mW.vers x λr W3 base h1 hO b3=>?_
  refine zBa zAz rfl yC (cs:=[Sl.v r,.int .u64 (zDh s1.l s1.low x).2.1]) rfl (by cases r with|mk a l c=>cases a<;>rfl) rfl λC W4 b4 hX _=>?_
  have m4:=(mW.bel b3).bel b4
  have hE4:=hEW.trans (Ext.bel (b3.trans b4))
  unfold zKH at H
  rw [← hlow] at H
  refine ⟨λhz=>?_,λhz=>?_⟩
  ·rw [if_pos hz] at H
   refine Za yC (cs:=[Sl.v r,.int .u64 (zDh s1.l s1.low x).2.1]) ⟨r,(zDh s1.l s1.low x).2.1⟩ rfl hX.at rfl ⟨trivial,?_⟩
   refine ⟨_,W4,xb _ _,?_⟩
   refine zRq yC (vs:=[Sl.v r,.int .u64 (zDh s1.l s1.low x).2.1]) (off:=0) m4.row rfl (by simp) (by cases r with|mk a l c=>cases a<;>rfl) λW5 hR5 g5=>?_
   have hO4:=hO.bel b4
   have hnew:∀ k,(Sl.v r).ownBlock=some k->k<W4.heap.size/\ρ k=none:=λk hk=>by
    refine ⟨hO4.lt hk,?_⟩
    have h2:=hO.lo hk
    cases hρ:ρ k with
    |none=>rfl
    |some r0=>
     have h3:=m.lt k (by rw [hρ];simp)
     have h4:=hEW.out.size
     omega
   have m5:=m4.setVers (Z1.rd hO4) hnew g5 hR5
   refine H _ W5 ⟨_,_,_,m5⟩ ⟨hE4.out.trans (Out.row (S:=λk=>ρ k≠none) g5 λk hk=>by cases hk;exact .inl (by show ρ _≠none;rw [m.rmg];simp)) λ_ _ h=>h,λk hk=>if_neg λe=>?_⟩
   have h2:=hO.lo e
   have h4:=hEW.out.size
   omega
  ·rw [if_neg hz] at H
   exact H ρ W4 ⟨_,_,_,m4⟩ hE4
 ·refine ⟨λe=>(nomatch e),λk v' e=>?_⟩
  cases e
  have hb2:Bel w1 W2:=hb1.grown hg λr e=>by cases e;omega
  cases ht:s1.tx y with
  |none=>rw [ht] at hy;cases hy
  |some t=>
   have hv:v=ptrA (g y).tb:=by rw [ht] at hy;simpa using hy.symm
   subst hv
   have hcl:(ks++[y]).length<=dom.length:=zGT hi2.nd λz hz=>(hdom.2 z).2 (hi2.dom z hz)
   rw [zg,List.length_singleton] at hcl
   have hl1:=hi1.size
   have hl2:=hi2.size
   rw [zg,List.length_singleton] at hl2
   refine zIp hi2 hy zK7 ⟨trivial,?_⟩
   refine yA zEY yO ((m1.bel hb2).tx y t ht).row.at t.began rfl ?_
   refine ⟨⟨ks++[y],hi2,hb2,?_,λk hk u hu=>?_,?_⟩,by dsimp only;omega⟩
   ·split<;>omega
   ·rcases List.mem_append.1 hk with hk|hk
    ·have:=hx2 k hk u hu
     split<;>omega
    ·simp at hk;subst hk
     rw [ht] at hu;cases hu
     split<;>omega
   ·split
    ·exact .inr ⟨y,t,by simp,ht,rfl⟩
    ·rcases hx3 with h|⟨k,u,h1,h2,h3⟩
     ·exact .inl h
     ·exact .inr ⟨k,u,by simp [h1],h2,h3⟩
theorem zRm (h:Mgr ρ w b s) (n:Int) {k:World->Prop} (H:∀ ρ' w',Mgr ρ' w' b (zAB s n)->Ext ρ w ρ' w'->k w'):
  Cl zA zGo [.pointer (ptrA b),.int .i64 n].toArray w (λe w'=>e=.returned (.tuple [].toArray)/\k w'):=zJK (ptrA b) n w k (zQ0 h n H)
theorem zMZ (h:Mgr ρ w b s) (n:Int) {k:World->Prop} (H:∀ ρ' w',Mgr ρ' w' b (zAB s n)->Ext ρ w ρ' w'->k w'):
  opD zA zGo [.pointer (ptrA b),.int .i64 n] w k:=ClD.mono (zIa (ptrA b) n w k (zQ0 h n H)) λe w' h=>⟨⟨_,h.1⟩,h.2⟩
end
end Go.Proofs.YtealcoghiaeiiaaGreat.VG
set_option linter.unusedVariables false
namespace Go.Proofs.YtealcoghiaeiiaaGreat.VG
open Go.VB Go.Proofs Go.RowKit
theorem getE {α:Type} {l:List α} {n:Nat} (h:n<l.length):∃ x,l[n]?=some x:=⟨l[n]'h,by simp⟩
theorem zJ0 {α:Type} {l:List α} {n:Nat} {x:α} (h:l[n]?=some x) (p:α->Bool) (hn:(l.take n).any p=false):(l.take (n+1)).any p=p x:=by
 rw [zA0 h,List.any_append,hn];simp
theorem zMU {α:Type} {l:List α} {n:Nat} {x:α} (h:l[n]?=some x) (p:α->Bool) (hp:p x=true):l.any p=true:=List.any_eq_true.2 ⟨x,List.mem_of_getElem? h,hp⟩
def zKO (fv:Value) (p:zG->Bool) (l:List zG) (w:World):Prop:=∀ d∈l,∀ w' (k:Bool->World->Prop),Bel w w'->(∀ w'',Bel w' w''->k (p d) w'')->zG6 zA fv [zG.v d] w' (λe w''=>∃ r:Bool,e=.returned (.bool r)/\k r w'')
theorem zJh {w:World} {x:Sl} {l:List zG} (hd:Rd zG.cells 4 w x l) {fv:Value} {p:zG->Bool} (hp:zKO fv p l w) {k:Bool->World->Prop} (H:∀ w',Bel w w'->k (l.any p) w'):
  Cl zA zAn [Sl.v x,fv].toArray w (λe w'=>∃ r0:Bool,e=.returned (.bool r0)/\k r0 w'):=by
 have dbig:=hd.big;have dcap:=hd.cap;have dlen:=hd.len
 refine zAq x _ w k ?_
 unfold Q7
 refine zBB x _ w _ ?_
 unfold YZ
 refine ⟨λi w1=>∃ n:Nat,i=(n:Int)/\n<=l.length/\Bel w w1/\(l.take n).any p=false,λi _=>(x.len - i).toNat,⟨0,rfl,by omega,Bel.refl _,by simp⟩,?_⟩
 rintro i w1 ⟨n,rfl,hn,hb,hno⟩
 unfold yx
 refine ⟨λhc=>?_,λhc=>?_⟩
 ·obtain ⟨d,hdn⟩:=getE (l:=l) (n:=n) (by omega)
  refine zDA (hd.bel hb) yq Qc (by omega) (x:=d) (by simpa using hdn) λad hA=>?_
  refine Za yP d rfl hA rfl ?_
  refine hp d (List.mem_of_getElem? hdn) w1 _ hb λw2 b2=>⟨λht=>?_,λhf=>?_⟩
  ·dsimp only
   rw [decide_eq_true (p:=0<=(n:Int)) (by omega),← zMU hdn p ht]
   exact H w2 (hb.trans b2)
  ·rw [wr64 (by omega) (by omega)]
   exact ⟨⟨n+1,by omega,by omega,hb.trans b2,by rw [zJ0 hdn p hno];exact hf⟩,by dsimp only;omega⟩
 ·obtain rfl:n=l.length:=by omega
  rw [List.take_length] at hno
  have:=H w1 hb
  rw [hno] at this
  exact this
def zLS (fv:Value) (p:yD->Bool) (l:List yD) (w:World):Prop:=∀ d∈l,∀ w' (k:Bool->World->Prop),Bel w w'->(∀ w'',Bel w' w''->k (p d) w'')->zG6 zA fv [yD.v d] w' (λe w''=>∃ r:Bool,e=.returned (.bool r)/\k r w'')
theorem zKv {w:World} {x:Sl} {l:List yD} (hd:Rd yD.cells 3 w x l) {fv:Value} {p:yD->Bool} (hp:zLS fv p l w) {k:Bool->World->Prop} (H:∀ w',Bel w w'->k (l.any p) w'):
  Cl zA zDf [Sl.v x,fv].toArray w (λe w'=>∃ r0:Bool,e=.returned (.bool r0)/\k r0 w'):=by
 have dbig:=hd.big;have dcap:=hd.cap;have dlen:=hd.len
 refine zDl x _ w k ?_
 unfold Zy
 refine zEh x _ w _ ?_
 unfold zAY
 refine ⟨λi w1=>∃ n:Nat,i=(n:Int)/\n<=l.length/\Bel w w1/\(l.take n).any p=false,λi _=>(x.len - i).toNat,⟨0,rfl,by omega,Bel.refl _,by simp⟩,?_⟩
 rintro i w1 ⟨n,rfl,hn,hb,hno⟩
 unfold Yu
 refine ⟨λhc=>?_,λhc=>?_⟩
 ·obtain ⟨d,hdn⟩:=getE (l:=l) (n:=n) (by omega)
  refine zDA (hd.bel hb) zHC zLT (by omega) (x:=d) (by simpa using hdn) λad hA=>?_
  refine Za zF2 d rfl hA rfl ?_
  refine hp d (List.mem_of_getElem? hdn) w1 _ hb λw2 b2=>⟨λht=>?_,λhf=>?_⟩
  ·dsimp only
   rw [decide_eq_true (p:=0<=(n:Int)) (by omega),← zMU hdn p ht]
   exact H w2 (hb.trans b2)
  ·rw [wr64 (by omega) (by omega)]
   exact ⟨⟨n+1,by omega,by omega,hb.trans b2,by rw [zJ0 hdn p hno];exact hf⟩,by dsimp only;omega⟩
 ·obtain rfl:n=l.length:=by omega
  rw [List.take_length] at hno
  have:=H w1 hb
  rw [hno] at this
  exact this
def zGt (fv:Value) (p:zM->Bool) (l:List zM) (w:World):Prop:=∀ d∈l,∀ w' (k:Bool->World->Prop),Bel w w'->(∀ w'',Bel w' w''->k (p d) w'')->zG6 zA fv [zM.v d] w' (λe w''=>∃ r:Bool,e=.returned (.bool r)/\k r w'')
theorem zKr {w:World} {x:Sl} {l:List zM} (hd:Rd zM.cells 2 w x l) {fv:Value} {p:zM->Bool} (hp:zGt fv p l w) {k:Bool->World->Prop} (H:∀ w',Bel w w'->k (l.any p) w'):
  Cl zA zDq [Sl.v x,fv].toArray w (λe w'=>∃ r0:Bool,e=.returned (.bool r0)/\k r0 w'):=by
 have dbig:=hd.big;have dcap:=hd.cap;have dlen:=hd.len
 refine zDk x _ w k ?_
 unfold Zz
 refine zBy x _ w _ ?_
 unfold ZM
 refine ⟨λi w1=>∃ n:Nat,i=(n:Int)/\n<=l.length/\Bel w w1/\(l.take n).any p=false,λi _=>(x.len - i).toNat,⟨0,rfl,by omega,Bel.refl _,by simp⟩,?_⟩
 rintro i w1 ⟨n,rfl,hn,hb,hno⟩
 unfold QY
 refine ⟨λhc=>?_,λhc=>?_⟩
 ·obtain ⟨d,hdn⟩:=getE (l:=l) (n:=n) (by omega)
  refine zDA (hd.bel hb) YR Zh (by omega) (x:=d) (by simpa using hdn) λad hA=>?_
  refine Za YA d rfl hA rfl ?_
  refine hp d (List.mem_of_getElem? hdn) w1 _ hb λw2 b2=>⟨λht=>?_,λhf=>?_⟩
  ·dsimp only
   rw [decide_eq_true (p:=0<=(n:Int)) (by omega),← zMU hdn p ht]
   exact H w2 (hb.trans b2)
  ·rw [wr64 (by omega) (by omega)]
   exact ⟨⟨n+1,by omega,by omega,hb.trans b2,by rw [zJ0 hdn p hno];exact hf⟩,by dsimp only;omega⟩
 ·obtain rfl:n=l.length:=by omega
  rw [List.take_length] at hno
  have:=H w1 hb
  rw [hno] at this
  exact this
def Qr (x:Spn) (key:ByteArray):Bool:=if x.only=true then decide (key=x.from_) else (!sLt key x.from_)&&(decide (x.to_=noB)||sLt key x.to_)
theorem zOb (x:Spn) (key:ByteArray) (w:World) {k:Bool->World->Prop} (H:∀ w',Bel w w'->k (Qr x key) w'):
  Cl zA zKq [yD.v x,.string key].toArray w (λe w'=>∃ r0:Bool,e=.returned (.bool r0)/\k r0 w'):=by
 refine zKs x key w k ?_
 unfold zGu zCi zCk
 refine zAo (cs:=x.cells) rfl λB w1 b1 hX _=>?_
 refine yA zJ1 zDR hX.at x.only rfl ?_
 have h:=H w1 b1
 unfold Qr at h
 refine ⟨λho=>?_,λho=>?_⟩
 ·rw [if_pos ho] at h
  exact yA zHO zh hX.at x.from_ rfl h
 ·rw [if_neg (by simp [ho])] at h
  refine yA zHO zh hX.at x.from_ rfl ⟨λh1=>?_,λh1=>?_⟩
  ·rw [h1] at h
   refine yA zIG zh hX.at x.to_ rfl ⟨λh2=>?_,λh2=>?_⟩
   ·rw [show decide (x.to_=noB)=true from decide_eq_true h2] at h
    exact h
   ·rw [show decide (x.to_=noB)=false from decide_eq_false h2] at h
    exact yA zIG zh hX.at x.to_ rfl h
  ·rw [h1] at h
   exact h
def conf (t:Tx) (v:Ver):Bool:=decide (t.began<v.At)&&t.reads.any (λx=>Qr x v.Key)
theorem zPd (x:Spn) {w:World} {B:Nat} {v:Ver} (hB:Row w B v.cells yK) {k:Bool->World->Prop} (H:∀ w',Bel w w'->k (Qr x v.Key) w'):
  Cl zA zDN [yD.v x,.pointer (ptrA B)].toArray w (λe w'=>∃ r0:Bool,e=.returned (.bool r0)/\k r0 w'):=by
 refine zGg x (ptrA B) w k ?_
 unfold zB6
 refine zAo (cs:=x.cells) rfl λC w1 b1 hX _=>?_
 refine Za zF2 x rfl hX.at rfl ?_
 refine yA ZN zh (hB.bel b1).at v.Key rfl ?_
 exact zOb x v.Key w1 λw2 b2=>H w2 (b1.trans b2)
theorem zQt (v:Ver) {w:World} {B tb wb:Nat} {rs:Sl} {t:Tx} (hB:Row w B [.pointer (ptrA tb)] zFk) (hT:Row w tb [.int .u64 t.began,Sl.v rs,.map (some wb)] zBV) (hR:Rd yD.cells 3 w rs t.reads) {k:Bool->World->Prop} (H:∀ w',Bel w w'->k (conf t v) w'):
  Cl zA zEI [zG.v v,.pointer (ptrA B)].toArray w (λe w'=>∃ r0:Bool,e=.returned (.bool r0)/\k r0 w'):=by
 refine zG1 v (ptrA B) w k ?_
 unfold zCP Zc
 refine zAo (cs:=v.cells) rfl λC w1 b1 hX _=>?_
 have hB1:=hB.bel b1
 have hT1:=hT.bel b1
 refine zGV zAt yO hX.at v.At rfl ?_
 refine zNr zBm (ptrA tb) hB1.cell ⟨trivial,?_⟩
 refine zGV zEY yO hT1.at t.began rfl ⟨λhc=>?_,λhc=>?_⟩
 ·refine zNr zBm (ptrA tb) hB1.cell ⟨trivial,?_⟩
  refine zGV zBh zCH hT1.at rs rfl ?_
  refine ⟨t.reads.any (λx=>Qr x v.Key),λW hW=>?_,λW hW=>?_⟩
  ·refine (zKv (hR.bel (b1.trans hW)) (p:=λx=>Qr x v.Key) (λd _ w' k' hb hk=>.inl ⟨zDN,[],[.pointer (ptrA C)],rfl,zTh,zPd d ((hX.bel hW).bel hb) hk⟩) (k:=λr w'=>r=t.reads.any (λx=>Qr x v.Key)/\Bel W w') λw' hb=>⟨rfl,hb⟩).mono λe w' ⟨r,he,hr,hb⟩=>⟨by rw [he,hr],hb⟩
  ·have:=H W (b1.trans hW)
   unfold conf at this
   rw [decide_eq_true hc,Bool.true_and] at this
   exact this
 ·intro W hW
  have:=H W (b1.trans hW)
  unfold conf at this
  rw [decide_eq_false hc,Bool.false_and] at this
  exact this
theorem zMf {ρ:Own} {w:World} {b:Nat} {s:St} {vs:Sl} {mb:Nat} {g:Int->Gh} (m:zCx ρ w b s vs mb g) {n:Int} {t:Tx} (ht:s.tx n=some t) {k:Bool->World->Prop} (H:∀ w',Bel w w'->k (s.l.any (conf t)) w'):
  Cl zA zHU [.pointer (ptrA b),.pointer (ptrA (g n).tb)].toArray w (λe w'=>∃ r0:Bool,e=.returned (.bool r0)/\k r0 w'):=by
 refine zHb (ptrA b) (ptrA (g n).tb) w k ?_
 unfold zCv
 refine zAo (cs:=[.pointer (ptrA (g n).tb)]) rfl λB w1 b1 hB _=>⟨trivial,?_⟩
 have m1:=m.bel b1
 have mt:=m1.tx n t ht
 refine ⟨_,w1,xb _ _,?_⟩
 refine yA yI yH m1.versAt vs rfl ?_
 exact zJh m1.vers (p:=conf t) (λd _ w' k' hb hk=>.inl ⟨zEI,[],[.pointer (ptrA B)],rfl,zS1,zQt d (hB.bel hb) (mt.row.bel hb) ((mt.rd.rd λ_=>rfl).bel hb) hk⟩) λw2 b2=>H w2 (b1.trans b2)
end Go.Proofs.YtealcoghiaeiiaaGreat.VG
set_option linter.unusedVariables false
namespace Go.Proofs.YtealcoghiaeiiaaGreat.VG
open Go.VB Go.VB.Srt Go.Proofs Go.RowKit
abbrev zDr (base:Nat) (w:World) (s:Sl) (l:List Wri):Prop:=OwnS zJ.cells 3 ZB base w s l
theorem zDr.rd {base:Nat} {w:World} {s:Sl} {l:List Wri} (h:zDr base w s l):zJV w s l:=OwnS.rd h (λ_=>rfl)
abbrev encW (x:Wri):List Value:=[zJ.v x]
theorem zNC {κ ν:Type} {w w':World} {ek:κ->Value} {ev:ν->Value} {b r:Nat} {f:κ->Option ν} {ks:List κ} (h:zBM ek ev w b r f ks) (hk:KeepsWalks w w'):zBM ek ev w' b r f ks:=by
 obtain ⟨c,sb,h1⟩:=h.blk
 obtain ⟨es,c',h2⟩:=h.mapLt
 exact h.keep ((hk.same b _ h2 rfl).trans h2.symm) ((hk.same r _ h1 rfl).trans h1.symm)
theorem KeepsWalks.row {w w':World} {row:Option Nat} (hg:w.grownBy w' row) (hr:∀ r,row=some r->∃ cs t fr,w.heap[r]?=some (.cells cs t fr)):KeepsWalks w w':=
 ⟨hg.size,λk o hk ho=>(hg.block k (Array.getElem?_eq_some_iff.1 hk).1 (λe=>by
  obtain ⟨cs,t,fr,h⟩:=hr k e.symm
  rw [h] at hk;cases hk;cases ho)).trans hk⟩
def zMp (f:ByteArray->Option Wri) (xs:List Wri):Prop:=∃ ks,Doms f ks/\xs=ks.filterMap f
theorem zHY {α β:Type} (f:α->Option β) (ks:List α) (h:∀ k∈ks,∃ v,f k=some v):(ks.filterMap f).length=ks.length:=by
 induction ks with
 |nil=>rfl
 |cons a ks ih=>
  obtain ⟨v,hv⟩:=h a (by simp)
  rw [List.filterMap_cons_some hv,List.length_cons,List.length_cons,ih λk hk=>h k (by simp [hk])]
theorem zN0 {w:World} {f:ByteArray->Option Wri} {b b1:Nat} (h:zAD zZ zJ.v w b f) (h1:Row w b1 [.map (some b)] zHh) {dom:List ByteArray} (hd:Doms f dom):
  SeqStopsK (FW none) 0 zA Zf [.pointer (some ⟨b1,0,none⟩)].toArray (λx=>(encW x).toArray) KeepsWalks (zMp f) (λ_=>True) dom.length w:=by
 intro l' J Jx W hW hJ hJx hY h0
 have C:=zB1 (.func (.yield l') #[] #[]) (some ⟨b1,0,none⟩) W (λw'=>(∃ xs,zMp f xs/\J xs w')∨(∃ pre,True/\Jx pre w')) ?_
 ·exact CallsIn.mono C λe w' hr=>⟨⟨_,hr.1⟩,hr.2⟩
 unfold YV
 refine zBX Qs (some b) (h1.bel hW).cell ?_
 refine zQ9 (h.bel hW) Yf λW1 hi hb1=>?_
 have hblt:b<W.heap.size:=(h.bel hW).lt
 have hj0:J [] W1:=hJ _ _ _ none h0 (zo hb1 none) (λr e=>by cases e)
 generalize hR:W.heap.size=R at hi hblt ⊢
 refine ⟨λw1=>∃ ks,zBM zZ zJ.v w1 b R f ks/\J (ks.filterMap f) w1,λw1=>dom.length - zH6 w1 R,⟨[],hi,hj0⟩,?_⟩
 rintro w1 ⟨ks,hi1,hj1⟩
 unfold yn
 refine zN4 hi1 (by omega) zJC (λhall=>?_) λx v w2 hx hn hi2 hg=>?_
 ·exact ⟨λ_=>.inl ⟨_,⟨ks,⟨hi1.nd,λx=>⟨hi1.dom x,λ⟨v,hv⟩=>hall x v hv⟩⟩,rfl⟩,hj1⟩,λk v e=>by cases e⟩
 ·refine ⟨λe=>(nomatch e),λk v' e=>?_⟩
  cases e
  have hj2:J (ks.filterMap f) w2:=hJ _ _ _ (some R) hj1 hg (λr e=>by
   cases e
   obtain ⟨c,sb,hb⟩:=hi1.blk
   exact ⟨by omega,_,hb,rfl⟩)
  have hcl:(ks++[x]).length<=dom.length:=zGT hi2.nd λy hy=>(hd.2 y).2 (hi2.dom y hy)
  have hl1:=hi1.size
  rw [zg,List.length_singleton] at hcl
  have hfl:=zHY f ks hi1.dom
  refine zIp hi2 hx zJC ?_
  refine zBa zBl rfl QR (cs:=v.cells) rfl rfl rfl λC w3 b3 hX _=>?_
  have hj3:J (ks.filterMap f) w3:=hJ _ _ _ none hj2 (zo b3 none) (λr e=>by cases e)
  have hi3:=hi2.bel b3
  refine Za QR v rfl hX.at rfl ?_
  refine .inr ⟨l',rfl,YieldAt.mono (hY _ v w3 hj3 (by omega)) λe' w4 hr=>?_⟩
  rcases hr with ⟨rfl,hj4,hk⟩|⟨rfl,hj4⟩
  ·refine ⟨true,rfl,λh=>(nomatch h),λ_=>?_⟩
   have hi4:=zNC hi3 hk
   refine ⟨⟨_,hi4,by rw [List.filterMap_append,List.filterMap_cons_some hx];exact hj4⟩,?_⟩
   have hl3:=hi4.size
   rw [zg,List.length_singleton] at hl3
   dsimp only
   omega
  ·exact ⟨false,rfl,λ_=>.inr ⟨_,trivial,hj4⟩,λh=>(nomatch h)⟩
theorem zPe {w:World} {f:ByteArray->Option Wri} {b:Nat} (h:zAD zZ zJ.v w b f) {dom:List ByteArray} (hd:Doms f dom) {k:Value->World->Prop}
  (H:∀ v w',zKQ zA v encW KeepsWalks (zMp f) (λ_=>True) dom.length w'->Bel w w'->k v w'):
  Cl zA zCD [.map (some b)].toArray w (λe w'=>∃ v:Value,e=.returned v/\k v w'):=by
 refine zB8 (some b) w k ?_
 unfold Yj
 refine zAo (cs:=[.map (some b)]) rfl λB w1 b1 hr1 _=>?_
 exact H _ _ ⟨Zf,_,rfl,zSv,zN0 (h.bel b1) hr1 hd⟩ b1
theorem zQL {base:Nat} {w0 w:World} {s:Sl} {l:List Wri} {x:Wri} {k:Sl->World->Prop} (hO:zDr base w s l) (hB:Bel w0 w) (hb:w0.heap.size<=base) (hbw:base<=w.heap.size) (room:l.length+1<=1000000000)
  (H:∀ s' w',zDr base w' s' (l++[x])->Bel w0 w'->w.grownBy w' (Sl.v s).ownBlock->k s' w'):
  opE zA Sl.v (ze zAp 1 [(0,zJ.v x)].toArray) w (λy w=>opE zA Sl.v (Builtin.append_ #[zAp,zAp] zAp [Sl.v s,Sl.v y].toArray) w k):=
 zOK hO (λ_=>rfl) (λ_=>rfl) (by decide) zBW zKe rfl (by decide) (zGb x) hB hb hbw (by omega) H
theorem zNH {v:Value} {Sq Sp:List Wri->Prop} {Num:Nat} {w:World} (hs:zKQ zA v encW KeepsWalks Sq Sp Num w) (hN:Num<=100000000) {k:Sl->World->Prop}
  (H:∀ r w' xs base,w.heap.size<=base->Sq xs->zDr base w' r xs->Bel w w'->k r w'):Cl zA zGq [v].toArray w (λe w'=>∃ r0:Sl,e=.returned (Sl.v r0)/\k r0 w'):=by
 refine zGp v w k ?_
 unfold zCF
 refine zD7 Sl.none v w k ?_
 unfold zAF
 refine zSo rfl ?_
 have hb0:Bel w (w.alloc (.cells [Sl.v Sl.none].toArray zAp)):=Bel.alloc _ _
 have hr0:=Row.new w [Sl.v Sl.none] zAp
 have hsz:(w.alloc (.cells [Sl.v Sl.none].toArray zAp)).heap.size=w.heap.size+1:=size_alloc' _ _
 have hlo0:=hr0.lt
 generalize hB:w.heap.size=B at hr0 hsz hlo0 ⊢
 generalize (w.alloc (.cells [Sl.v Sl.none].toArray zAp))=w1 at hb0 hr0 hsz hlo0 ⊢
 refine ⟨zJ.cells,KeepsWalks,Sq,Sp,Num,λpre W=>∃ sl,Row W B [Sl.v sl] zAp/\zDr w1.heap.size W sl pre/\Bel w W/\w1.heap.size<=W.heap.size,λ_ _=>False,
  ⟨hs.later hb0,λ_ _ _=>KeepsWalks.trans,λW l o o' h1 h2 h3 h4=>KeepsWalks.putObj o' h2 h4,λpre W o _=>KeepsWalks.alloc W o,λs W W' row hi hg hr=>?_,λs W W' row hi hg hr=>hi,λpre W hi=>hi.elim λ_ h=>h.2.2.2,⟨Sl.none,hr0,OwnS.nil _ _ _ _ _,hb0,zU _⟩⟩,
  λx W k hk=>zRy zBl rfl QR (cs:=x.cells) rfl rfl rfl hk,?_,?_,?_⟩
 ·obtain ⟨sl,h1,h2,h3,h4⟩:=hi
  exact ⟨sl,h1.notwalk hg hr,h2.notwalk hg hr,h3.notwalk (by omega) hg hr,zn h4 hg.size⟩
 ·rintro pre x Bx W hBx hx ⟨sl,h1,h2,h3,h4⟩ hlen
  unfold ZY
  have hx':Row W Bx x.cells ZB:=hx
  refine zBX zFI sl h1.cell ?_
  refine Za QR x rfl hx'.at rfl ?_
  refine zQL (w0:=w) (w:=W) h2 h3 (by omega) h4 (by omega) λs' w' h5 h6 h7=>?_
  have hne:(Sl.v sl).ownBlock≠some B:=λe=>by have:=h2.lo e;omega
  have hr1:=h1.grown h7 hne
  refine zIZ zFI hr1 (by cases s' with|mk a l c=>cases a<;>rfl) (by cases s' with|mk a l c=>cases a<;>rfl) λw'' hr2 hg2=>?_
  refine ⟨(KeepsFrom.row h7 λr hr=>h2.isRow hr).trans (KeepsFrom.row hg2 λr hr=>by cases hr;exact ⟨_,_,_,hr1⟩),(KeepsWalks.row h7 λr hr=>h2.isRow hr).trans (KeepsWalks.row hg2 λr hr=>by cases hr;exact ⟨_,_,_,hr1⟩),s',hr2,h5.kept hg2 ?_,?_,zn h4 (zn h7.size hg2.size)⟩
  ·cases hq:(Sl.v s').ownBlock with
   |none=>exact .inl rfl
   |some q=>
    refine .inr λe=>?_
    have h8:=h5.lo hq
    have h9:=Option.some.inj e
    omega
  ·exact h6.grown hg2 λr hr=>by cases hr;omega
 ·rintro D xs W hD hS ⟨sl,h1,h2,h3,h4⟩ hK
  refine zBX zFI sl h1.cell ?_
  refine ⟨hK,?_⟩
  have hg:=zJb W D
  have hr:∀ r,some D=some r->w1.heap.size<=r/\∃ o:Obj,W.heap[r]?=some o/\o.isCells=false:=λr e=>by cases e;exact ⟨hD,_,hK,rfl⟩
  exact H sl _ xs _ (by omega) hS (h2.notwalk hg hr) (h3.notwalk (by omega) hg hr)
 ·exact λD pre W h1 h2 h3 h4=>trivial
def kltB (a b:Wri):Bool:=sLt a.Key b.Key
theorem zP3:Srt.SWO kltB where
 irr x:=by
  cases h:kltB x x with
  |false=>rfl
  |true=>exact absurd h (Z6 x.Key)
 neg x y z h:=by
  unfold kltB at*
  by_cases h1:sLt x.Key y.Key=true
  ·exact .inl h1
  ·right
   by_cases h2:x.Key=y.Key
   ·rw [← h2];exact h
   ·exact zHs (zEe h1 h2) h
 asy x y h:=by
  cases h1:kltB y x with
  |false=>rfl
  |true=>exact absurd h1 (zIB h)
theorem zOU (a b:Wri) (w:World) {k:Int->World->Prop} (H:∀ w',Bel w w'->k (cmpS a.Key b.Key) w'):Cl zA zFT [zJ.v a,zJ.v b].toArray w (λe w'=>∃ r0:Int,e=.returned (.int .i64 r0)/\k r0 w'):=by
 refine zJw a b w k ?_
 unfold zFy
 refine zAo (cs:=a.cells) rfl λB w1 b1 hA _=>?_
 refine zAo (cs:=b.cells) rfl λC w2 b2 hB _=>?_
 refine yA xm zh (hA.bel b2).at a.Key rfl ?_
 refine yA xm zh hB.at b.Key rfl ?_
 exact zI7 a.Key b.Key w2 (H w2 (b1.trans b2))
theorem zMY:SoCmpFunc_api_Write.Cmps (.func (.func zFT) #[] #[]) kltB:=λw x y=>
 ⟨cmpS x.Key y.Key,⟨zFT,[],[],rfl,zTR,λw' _=>(zOU x y w' (k:=λr W=>r=cmpS x.Key y.Key/\Bel w' W) λW hb=>⟨rfl,hb⟩).mono λe W ⟨r,he,hr,hb⟩=>⟨by rw [he,hr],hb⟩⟩,by rw [zMg];exact Iff.rfl⟩
def zFe (f:ByteArray->Option Wri) (ys:List Wri):Prop:=ys.Pairwise (λa b=>sLt a.Key b.Key=true)/\∀ x,x∈ys↔f x.Key=some x
theorem zFe.one {f:ByteArray->Option Wri} {xs ys:List Wri} (h:zFe f xs) (k:zFe f ys):xs=ys:=by
 have hm:∀ x,x∈xs↔x∈ys:=λx=>by rw [h.2,k.2]
 have h1:=h.1
 have k1:=k.1
 clear h k
 induction xs generalizing ys with
 |nil=>cases ys with
  |nil=>rfl
  |cons b ys=>exact absurd ((hm b).2 (by simp)) (by simp)
 |cons a xs ih=>
  cases ys with
  |nil=>exact absurd ((hm a).1 (by simp)) (by simp)
  |cons b ys=>
   obtain ⟨h2,h3⟩:=List.pairwise_cons.1 h1
   obtain ⟨k2,k3⟩:=List.pairwise_cons.1 k1
   have hab:a=b:=by
    rcases List.mem_cons.1 ((hm a).1 (by simp)) with e|e
    ·exact e
    ·rcases List.mem_cons.1 ((hm b).2 (by simp)) with e'|e'
     ·exact e'.symm
     ·exact absurd (h2 b e') (zIB (k2 a e))
   subst hab
   rw [ih (λx=>?_) h3 k3]
   constructor
   ·intro hx
    rcases List.mem_cons.1 ((hm x).1 (by simp [hx])) with e|e
    ·subst e;exact absurd (h2 x hx) (Z6 _)
    ·exact e
   ·intro hx
    rcases List.mem_cons.1 ((hm x).2 (by simp [hx])) with e|e
    ·subst e;exact absurd (k2 x hx) (Z6 _)
    ·exact e
theorem zPo {f:ByteArray->Option Wri} (hk:∀ k x,f k=some x->x.Key=k) {xs ys:List Wri} (hx:zMp f xs) (hp:ys.Perm xs) (hl:ys.Pairwise (λx y=>Le kltB x y)):zFe f ys/\∃ ks,Doms f ks/\ks.length=ys.length:=by
 obtain ⟨ks,hd,rfl⟩:=hx
 have hmem:∀ x,x∈ys↔f x.Key=some x:=λx=>by
  rw [hp.mem_iff,List.mem_filterMap]
  constructor
  ·rintro ⟨k,_,h⟩
   rw [hk k x h];exact h
  ·exact λh=>⟨x.Key,(hd.2 _).2 ⟨x,h⟩,h⟩
 have hnd:(ks.filterMap f).Pairwise (λx y=>x.Key≠y.Key):=by
  rw [List.pairwise_filterMap]
  refine hd.1.imp λ{a b} hab x hx y hy e=>hab ?_
  rw [← hk a x hx,← hk b y hy,e]
 have hnd':ys.Pairwise (λx y=>x.Key≠y.Key):=(hp.pairwise_iff (λ{x y} h=>h.symm)).2 hnd
 have hstr:ys.Pairwise (λa b=>sLt a.Key b.Key=true):=(hl.and hnd').imp λ{x y} h12=>by
  cases h:sLt x.Key y.Key with
  |true=>rfl
  |false=>
   have h3:sLt y.Key x.Key=true:=zEe (by rw [h];decide) h12.2
   have h4:sLt y.Key x.Key=false:=h12.1
   rw [h3] at h4;cases h4
 exact ⟨⟨hstr,hmem⟩,ks,hd,by rw [hp.length_eq,zHY f ks λk hk'=>(hd.2 k).1 hk']⟩
theorem zN5 {ρ:Own} {w:World} {n:Int} {t:Tx} {g:Gh} (mt:TxAt ρ w n t g) (hk:∀ k x,t.wr k=some x->x.Key=k) {dom:List ByteArray} (hd:Doms t.wr dom) (hN:dom.length<=100000000) {k:Sl->World->Prop}
  (H:∀ r w' ys base,w.heap.size<=base->zFe t.wr ys->zDr base w' r ys->Bel w w'->k r w'):
  Cl zA zKS [.pointer (ptrA g.tb)].toArray w (λe w'=>∃ r0:Sl,e=.returned (Sl.v r0)/\k r0 w'):=by
 refine zKh (ptrA g.tb) w k ?_
 unfold zGf
 refine ⟨trivial,?_⟩
 refine yA zAc Qs mt.row.at (some g.wb) rfl ?_
 refine zPe mt.wr hd λv w1 hs b1=>?_
 refine zGD v _ w1 k ?_
 unfold zBp
 refine zNH hs hN λr w2 xs base hb hS hO hbel=>?_
 refine SoCmpFunc_api_Write.sort_ok zP3 zMY hO λys w3 hp hpw hO2 hg=>?_
 exact H r w3 ys base (zn b1.le hb) (zPo hk hS hp hpw).1 hO2 ((b1.trans hbel).grown hg λq hq=>zn (zn b1.le hb) (hO.lo hq))
end Go.Proofs.YtealcoghiaeiiaaGreat.VG
set_option linter.unusedVariables false
namespace Go.Proofs.YtealcoghiaeiiaaGreat.VG
open Go.VB Go.Proofs Go.RowKit
def putS (s:St) (p:List Ver × Int × Int):St:={s with l:=p.1,low:=p.2.1,now:=s.now+1}
theorem _root_.Go.VB.OwnS.low {α:Type} {c:α->List Value} {n e base base':Nat} {w:World} {s:Sl} {xs:List α} (h:OwnS c n e base w s xs) (hb:base'<=base):OwnS c n e base' w s xs:=by
 refine ⟨h.len,h.small,h.row.1,?_⟩
 rcases h.row.2 with h1|⟨g,cap,cur,h1,h2,h3⟩
 ·exact .inl h1
 ·exact .inr ⟨g,cap,cur,h1,zn hb h2,h3⟩
def Few (t:Tx):Prop:=∃ ks,Doms t.wr ks/\ks.length<=256
def zOx (t:Tx):Prop:=∀ k x,t.wr k=some x->x.Key=k
theorem wu64 {n:Int} (h0:0<=n) (h1:n<=18446744073709551615):zC .u64 n=n:=IntWalk.u64_in _ ⟨h0,h1⟩
section
variable {ρ:Own} {w:World} {b:Nat} {s:St}
theorem zP0 (h:Mgr ρ w b s) (n:Int) {k:Int->World->Prop} (H0:s.tx n=none->k 11 w) (H1:∀ t ρ' w',s.tx n=some t->Mgr ρ' w' b (zAB s n)->Ext ρ w ρ' w'->k 0 w'):
  Cl zA zGS [.pointer (ptrA b),.int .i64 n].toArray w (λe w'=>∃ r0:Int,e=.returned (.int .i64 r0)/\k r0 w'):=by
 have h':=h
 obtain ⟨vs,mb,g,m⟩:=h
 refine zIq (ptrA b) n w k ?_
 unfold zEu
 refine zNh m n (λht=>⟨λ_=>H0 ht,λh=>absurd (by decide) h⟩) λt ht=>⟨λh=>absurd rfl h,λ_=>?_⟩
 exact zRm h' n λρ' w' hM hE=>H1 t ρ' w' ht hM hE
theorem zKc (h:Mgr ρ w b s) (n:Int) (hF:∀ t,s.tx n=some t->Few t/\zOx t) (hn0:0<=s.now) (hn1:s.now<4611686018427387904) {k:Sl->Int->Int->World->Prop}
  (H0:s.tx n=none->k Sl.none 0 11 w)
  (H1:∀ t ρ' w',s.tx n=some t->s.l.any (conf t)=true->Mgr ρ' w' b (zAB s n)->Ext ρ w ρ' w'->k Sl.none 0 10 w')
  (H2:∀ t ρ' w',s.tx n=some t->s.l.any (conf t)=false->(∀ x,t.wr x=none)->Mgr ρ' w' b (zAB s n)->Ext ρ w ρ' w'->k Sl.none s.now 0 w')
  (H3:∀ t ys ρ' w',s.tx n=some t->s.l.any (conf t)=false->zFe t.wr ys->(∃ x,t.wr x≠none)->(vput s.l s.low ys (s.now+1)).2.2≠0->Mgr ρ' w' b (zAB s n)->Ext ρ w ρ' w'->k Sl.none 0 (vput s.l s.low ys (s.now+1)).2.2 w')
  (H4:∀ t ys r ρ' w',s.tx n=some t->s.l.any (conf t)=false->zFe t.wr ys->(∃ x,t.wr x≠none)->(vput s.l s.low ys (s.now+1)).2.2=0->Mgr ρ' w' b (zAB (putS s (vput s.l s.low ys (s.now+1))) n)->Ext ρ w ρ' w'->
   zDr w.heap.size w' r ys->(∀ q,(Sl.v r).ownBlock=some q->w.heap.size<=q/\q<w'.heap.size/\ρ' q=none)->k r (s.now+1) 0 w'):
  Cl zA zF9 [.pointer (ptrA b),.int .i64 n].toArray w (λe w'=>∃ (r0:Sl) (r1:Int) (r2:Int),e=.returned (.tuple [Sl.v r0,.int .u64 r1,.int .i64 r2].toArray)/\k r0 r1 r2 w'):=by
 obtain ⟨vs,mb,g,m⟩:=h
 refine zIK (ptrA b) n w k ?_
 unfold zEM
 refine zNh m n (λht=>⟨λ_=>H0 ht,λh=>absurd (by decide) h⟩) λt ht=>⟨λh=>absurd rfl h,λ_=>?_⟩
 refine zMf m ht λw1 b1=>?_
 have m1:=m.bel b1
 refine ⟨λhc=>zMZ ⟨_,_,_,m1⟩ n λρ' w' hM hE=>H1 t ρ' w' ht hc hM ((Ext.bel b1).trans hE),λhc=>⟨trivial,?_⟩⟩
 have mt1:=m1.tx n t ht
 refine yA zAc Qs mt1.row.at (some (g n).wb) rfl ?_
 refine zOO mt1.wr zJC Yf λks hks=>⟨λhz=>⟨trivial,?_⟩,λhz=>?_⟩
 ·have hks0:ks=[]:=List.eq_nil_of_length_eq_zero (by omega)
  have hno:∀ x,t.wr x=none:=λx=>by
   cases hx:t.wr x with
   |none=>rfl
   |some y=>have:=(hks.2 x).2 ⟨y,hx⟩;rw [hks0] at this;cases this
  refine zGV Zn yO m1.row.at s.now rfl λw2 b2=>?_
  exact zMZ ⟨_,_,_,m1.bel b2⟩ n λρ' w' hM hE=>H2 t ρ' w' ht hc hno hM ((Ext.bel (b1.trans b2)).trans hE)
 obtain ⟨⟨dom,hd,hl⟩,hk⟩:=hF t ht
 have hex:∃ x,t.wr x≠none:=by
  cases ks with
  |nil=>exact absurd rfl hz
  |cons x ks=>obtain ⟨y,hy⟩:=(hks.2 x).1 (by simp);exact ⟨x,by rw [hy];simp⟩
 refine zN5 mt1 hk hd (by omega) λr w2 ys base hb hS hO b2=>?_
 have b02:=b1.trans b2
 have m2:=m1.bel b2
 have J1:∀ W C r4 base4,Bel w2 W->Row W C [Sl.v r4,.int .u64 (vput s.l s.low ys (s.now+1)).2.1] yG->w2.heap.size<=base4->Z1 base4 W r4 (vput s.l s.low ys (s.now+1)).1->
   Z4 (ptrA b) n k r (vput s.l s.low ys (s.now+1)).2.2 (ptrA C) W:=by
  intro W C r4 base4 hb2 hC hb4 hO4
  unfold Z4
  have b0W:=b02.trans hb2
  have mW:=m.bel b0W
  refine ⟨λhne=>zMZ ⟨_,_,_,mW⟩ n λρ' w' hM hE=>H3 t ys ρ' w' ht hc hS hex hne hM ((Ext.bel b0W).trans hE),λhz0=>?_⟩
  have hz0:=Classical.not_not.1 hz0
  refine Za yC ⟨r4,(vput s.l s.low ys (s.now+1)).2.1⟩ rfl hC.at rfl ⟨trivial,?_⟩
  refine ⟨_,W,xb _ _,?_⟩
  refine zRq yC (vs:=[Sl.v r4,.int .u64 (vput s.l s.low ys (s.now+1)).2.1]) (off:=0) mW.row rfl (by simp) (by cases r4 with|mk a l c=>cases a<;>rfl) λW1 hR1 g1=>⟨trivial,?_⟩
  replace hR1:Row W1 b [Sl.v r4,.int .u64 (vput s.l s.low ys (s.now+1)).2.1,.int .u64 s.now,.int .i64 s.given,.map (some mb)] zAC:=hR1
  refine yA Zn yO hR1.at s.now rfl ⟨trivial,?_⟩
  rw [wu64 (by omega) (by omega)]
  refine ⟨_,W1,Zn _ _,?_⟩
  refine zIu yO hR1 rfl (by simp) rfl λW2 hR2 g2=>⟨trivial,?_⟩
  replace hR2:Row W2 b [Sl.v r4,.int .u64 (vput s.l s.low ys (s.now+1)).2.1,.int .u64 (s.now+1),.int .i64 s.given,.map (some mb)] zAC:=hR2
  have hg:=zS g1 g2
  have hs2:=b02.le
  have hsW:=hb2.le
  have hsg:=hg.size
  have hnew:∀ q,(Sl.v r4).ownBlock=some q->q<W.heap.size/\ρ q=none:=λq hq=>by
   refine ⟨hO4.lt hq,?_⟩
   have h2:=hO4.lo hq
   cases hρ:ρ q with
   |none=>rfl
   |some r0=>have h3:=m.lt q (by rw [hρ];simp);omega
  have m3:=mW.setVers (Z1.rd hO4) hnew hg hR2
  have hE3:Ext ρ w (λq=>if (Sl.v r4).ownBlock=some q then some .ve else ρ q) W2:=⟨(Ext.bel b0W).out.trans (Out.row (S:=λq=>ρ q≠none) hg λq hq=>by cases hq;exact .inl (by show ρ _≠none;rw [m.rmg];simp)) λ_ _ h=>h,λq hq=>if_neg λe=>by have:=hO4.lo e;omega⟩
  refine zGV Zn yO hR2.at (s.now+1) rfl λW3 b3=>?_
  refine zMZ (s:=putS s (vput s.l s.low ys (s.now+1))) ⟨_,_,_,m3.bel b3⟩ n λρ' w' hM hE=>?_
  have hrq:∀ q,(Sl.v r).ownBlock=some q->w.heap.size<=q/\q<w2.heap.size/\ρ q=none/\(if (Sl.v r4).ownBlock=some q then some Role.ve else ρ q)=none:=λq hq=>by
   have h1:=hO.lo hq
   have h2:=hO.lt hq
   have h3:ρ q=none:=by
    cases hρ:ρ q with
    |none=>rfl
    |some r0=>have h3:=m.lt q (by rw [hρ];simp);have:=b1.le;omega
   refine ⟨by have:=b1.le;omega,h2,h3,?_⟩
   rw [if_neg λe=>by have:=hO4.lo e;omega];exact h3
  have hs3:=b3.le
  refine H4 t ys r ρ' w' ht hc hS hex hz0 hM ((hE3.trans (Ext.bel b3)).trans hE) ((hO.low (zn b1.le hb)).keep λq hq=>?_) λq hq=>?_
  ·obtain ⟨h1,h2,h3,h4⟩:=hrq q hq
   rw [hE.blk (by omega) h4,b3.block q (by omega),hg.block q (by omega) (λe=>by cases e;rw [m.rmg] at h3;cases h3),hb2.block q h2]
  ·obtain ⟨h1,h2,h3,h4⟩:=hrq q hq
   have:=hE.out.size
   exact ⟨h1,by omega,(hE.same q (by omega)).trans h4⟩
 refine ⟨Bel w2,λu bu=>⟨bu,trivial,?_⟩⟩
 refine zFW xb ⟨trivial,?_⟩
 refine zFW Zn ?_
 refine zL0 yC (cs:=[Sl.v vs,.int .u64 s.low]) ⟨vs,s.low⟩ rfl (λW hW=>(m2.bel hW).versAt) rfl ?_
 refine zC3 yO s.now (λW hW=>(m2.bel hW).row.at.fld rfl) ?_
 rw [wu64 (by omega) (by omega)]
 constructor
 ·refine zO8 (x0:=⟨vs,s.low⟩) (m2.bel bu).vers ((zDr.rd hO).bel bu) (s.now+1) λr4 w3 base4 hb4 hO4 b3=>?_
  refine ⟨bu.trans b3,?_⟩
  refine zFL zAz λC w4 b4 hC hC0=>⟨(bu.trans b3).trans b4,?_⟩
  refine zI1 yC (cs':=[Sl.v r4,.int .u64 (vput s.l s.low ys (s.now+1)).2.1]) hC rfl rfl (by cases r4 with|mk a l c=>cases a<;>rfl) λw5 hC5 g5=>?_
  have b3l:=b3.le
  have bul:=bu.le
  have b5:Bel w2 w5:=((bu.trans b3).trans b4).grown g5 λq hq=>by cases hq;omega
  exact ⟨b5,J1 w5 C r4 base4 b5 hC5 (by omega) ((hO4.bel b4).kept g5 (OwnS.ne_row (hO4.bel b4) hC (by decide) |> Or.inr))⟩
 ·refine zFL zAz λC w3 b3 hC hC0=>⟨bu.trans b3,?_⟩
  refine zO8 (x0:=⟨vs,s.low⟩) (m2.bel (bu.trans b3)).vers ((zDr.rd hO).bel (bu.trans b3)) (s.now+1) λr4 w4 base4 hb4 hO4 b4=>?_
  refine ⟨(bu.trans b3).trans b4,?_⟩
  refine zI1 yC (cs':=[Sl.v r4,.int .u64 (vput s.l s.low ys (s.now+1)).2.1]) (hC.bel b4) rfl rfl (by cases r4 with|mk a l c=>cases a<;>rfl) λw5 hC5 g5=>?_
  have b3l:=b3.le
  have bul:=bu.le
  have b5:Bel w2 w5:=((bu.trans b3).trans b4).grown g5 λq hq=>by cases hq;omega
  exact ⟨b5,J1 w5 C r4 base4 b5 hC5 (by omega) (hO4.kept g5 (OwnS.ne_row hO4 (hC.bel b4) (by decide) |> Or.inr))⟩
end
end Go.Proofs.YtealcoghiaeiiaaGreat.VG
set_option linter.unusedVariables false
set_option linter.unusedSimpArgs false
namespace Go.Proofs.YtealcoghiaeiiaaGreat.VG
open Go.VB Go.Proofs
def zEZ (Ret:(Option Addr)->Int->World->Prop) (x14:Option Addr) (x21:Int) (Kl1:Int->World->Prop) (x6:Option Addr) (x38:Bool) (w:World):Prop:=
 yM w (λw=>(x38=true->(Ret none 2 w))/\(x38=false->(regC w (λC3 w=>Qg (.pointer x14)/\(opC C3 zA zB (zN 87 (.pointer x14) 0) (λx42=>opC C3 zA zB (zN 69 (.pointer x42) 0) (λx43=>opC C3 zA zB (zN 66 (.pointer x6) 0) (λx45=>opC C3 zA zB (zN 66 (.pointer x6) 1) (λx47=>opC C3 zA Sl.v (zD 67 (.pointer x43)) (λx44=>opC C3 zA zZ (zD 9 (.pointer x45)) (λx46=>opC C3 zA zZ (zD 9 (.pointer x47)) (λx48=>opC C3 zA zG.v (yr 72 [(0,(.string x46)),(1,(.int .u64 1)),(2,(.string x48))].toArray) (λx49=>opE zA Sl.v (ze 67 1 [(0,(zG.v x49))].toArray) w (λx50 w=>C3 w/\(opE zA Sl.v (Builtin.append_ #[67,67] 67 [(Sl.v x44),(Sl.v x50)].toArray) w (λx51 w=>C3 w/\(Qg (.pointer x14)/\(opC C3 zA zB (zN 87 (.pointer x14) 0) (λx53=>opC C3 zA zB (zN 69 (.pointer x53) 0) (λx54=>opU zA (zK 67 (.pointer x54) (Sl.v x51)) w (λw=>(Kl1 (zC .i64 (x21+1)) w))))))))))))))))))))))
def zGO (x0:Sl) (Ret:(Option Addr)->Int->World->Prop) (x14:Option Addr) (x21:Int) (w:World) (Kl1:Int->World->Prop):Prop:=
 ((x21<(x0.len:Int))->(opE zA zB (zF 22 (Sl.v x0) (.int .i64 x21)) w (λx24 w=>opE zA zM.v (zD 66 (.pointer x24)) w (λx25 w=>opE zA zB (zf 66 true (.tuple #[])) w (λx6 w=>opU zA (zK 66 (.pointer x6) (zM.v x25)) w (λw=>((0<x21)->(opB zA zB (zF 22 (Sl.v x0) (.int .i64 (zC .i64 (x21 - 1)))) w (λx32=>opB zA zB (zN 66 (.pointer x32) 0) w (λx33=>opB zA zZ (zD 9 (.pointer x33)) w (λx34=>opB zA zB (zN 66 (.pointer x6) 0) w (λx35=>opB zA zZ (zD 9 (.pointer x35)) w (λx36=>zEZ Ret x14 x21 Kl1 x6 (!sLt x34 x36) w)))))))/\(¬ (0<x21)->(zEZ Ret x14 x21 Kl1 x6 false w))))))))/\(¬ (x21<(x0.len:Int))->(Ret x14 0 w))
def zKV (x0:Sl) (w:World) (Ret:(Option Addr)->Int->World->Prop):Prop:=
 ((4096<(x0.len:Int))->(Ret none 3 w))/\(¬ (4096<(x0.len:Int))->(Cl zA 33 [(Sl.v x0),(.func (.func 34) #[] #[])].toArray w (λe w=>∃ (r:Bool),e=.returned (.bool r)/\((r=true->(Ret none 4 w))/\(r=false->(opE zA Value.map (Instr.makeMap 85 none) w (λx12 w=>opE zA zCn.v (yr 87 [(1,(.int .u64 1)),(3,(.map x12))].toArray) w (λx13 w=>opE zA zB (Instr.box 87 (zCn.v x13)) w (λx14 w=>Qg (.pointer x14)/\(opE zA zB (zN 87 (.pointer x14) 0) w (λx17 w=>opE zA zB (zN 69 (.pointer x17) 1) w (λx18 w=>opU zA (zK 37 (.pointer x18) (.int .u64 1)) w (λw=>∃ (I:Int->World->Prop) (μ:Int->World->Nat),I 0 w/\∀ (x21:Int) w,I x21 w->zGO x0 Ret x14 x21 w (λx21' w'=>I x21' w'/\μ x21' w'<μ x21 w))))))))))))))
set_option maxRecDepth 100000 in
theorem zON (x0:Sl) (w:World) (Ret:(Option Addr)->Int->World->Prop) (H:zKV x0 w Ret):Cl zA 11 [(Sl.v x0)].toArray w (λe w'=>∃ (r0:Option Addr) (r1:Int),e=.returned (.tuple [(.pointer r0),(.int .i64 r1)].toArray)/\Ret r0 r1 w'):=by
 unfold zKV at H
 refine zp 57 (zipE 0 [(Sl.v x0)]) Tryz.func11 rfl rfl (by rfl) rfl ?_
 intro a g
 have g:Sat [] 57 [(0,(Sl.v x0))] a:=g
 refine zI (zE (g.s rfl λ_ g=>g.s rfl λ_ g=>zL (tn (zI (zI (zE (g.m rfl λ_ g=>g.purR (λw=>ZU g Tryz.underlying22 rfl) λ_ g=>g.p (zBx g rfl rfl) λ_ g=>zL (tn (zd g rfl (λhc=>?_) (λhc=>?_))))))))))
 ·have H:=H.1 hc
  exact zI (zE (g.s rfl λ_ g=>g.s rfl λ_ g=>zL (tn (zl (tr (ZK g rfl rfl rfl ⟨_,_,rfl,H⟩))))))
 ·have H:=H.2 hc
  refine zY (tn (zI (zI (zE (g.m rfl λ_ g=>g.c (zb g zTT rfl rfl) H λe w H=>?_)))))
  obtain ⟨r,rfl,H⟩:=H
  refine ⟨_,rfl,λ_ g=>(zL (tn (zk g rfl (λhc=>?_) (λhc=>?_))))⟩
  ·have H:=H.1 hc
   exact zI (zE (g.s rfl λ_ g=>g.s rfl λ_ g=>zL (tn (zl (tr (ZK g rfl rfl rfl ⟨_,_,rfl,H⟩))))))
  ·have H:=H.2 hc
   refine zY (tn (zI (zE (g.o (zKb) H λx12 w a H g=>g.o (Z5 g rfl) H λx13 w a H g=>g.o (zBc g rfl) H λx14 w a H g=>g.s rfl λ_ g=>zL (tn (zI (zE (g.m rfl λ_ g=>g.p (zj g rfl H.1) λ_ g=>?_))))))))
   have H:=H.2
   refine g.o (zP g rfl) H λx17 w a H g=>g.o (zP g rfl) H λx18 w a H g=>g.h (zT g rfl rfl) H λw a H g=>zL (tn (zI (zI (zE (g.m rfl λ_ g=>g.purR (λw=>ZU g Tryz.underlying22 rfl) λ_ g=>g.m rfl λ_ g=>zL (tn (zX ?_)))))))
   obtain ⟨I_l1,μ_l1,h0,hb⟩:=H
   refine yE (ds:=[]) (N:=57) (σ:=Int) (λs=>[(21,(.int .i64 s)),(0,(Sl.v x0)),(4,(.pointer x14)),(19,(Sl.v x0)),(20,(.int .i64 (x0.len:Int)))]) (λs w=>I_l1 s w) (λs w=>μ_l1 s w) 0 h0 (g.k) ?_
   intro x21 w a hI g
   try dsimp only at hI g
   obtain ⟨Kl1,hK_l1⟩:∃ K:Int->World->Prop,K=(λx21' w'=>I_l1 x21' w'/\μ_l1 x21' w'<μ_l1 x21 w):=⟨_,rfl⟩
   have H:zGO x0 Ret x14 x21 w Kl1:=by rw [hK_l1];exact hb x21 w hI
   clear hb h0 hI
   unfold zGO at H
   refine zI (zE (g.p (yR g rfl rfl) λ_ g=>zL (tn (zI (zd g rfl (λhc=>?_) (λhc=>?_))))))
   ·have H:=H.1 hc
    refine zY (tn (zI (zX (zI (zE (g.m rfl λ_ g=>g.o (zH g rfl rfl) H λx24 w a H g=>g.o (zO g rfl) H λx25 w a H g=>g.o (xY) H λx6 w a H g=>g.s rfl λ_ g=>g.h (zT g rfl rfl) H λw a H g=>zL (tn (zI (zI (QU (by kernel_rfl) (by kernel_rfl) (g.t rfl λ_ g=>g.r (zBx g rfl rfl) λ_ g=>g.t rfl λ_ g=>WQ.join (ds:=[]) (N:=57) (σ:=Bool) (λs=>[(38,(.bool s)),(0,(Sl.v x0)),(4,(.pointer x14)),(6,(.pointer x6)),(19,(Sl.v x0)),(20,(.int .i64 (x0.len:Int))),(21,(.int .i64 x21))]) (λs=>zEZ Ret x14 x21 Kl1 x6 s w) 10 ?_ (λhr2=>?_))))))))))))
    ·intro x38 a H g
     try dsimp only at H g
     unfold zEZ at H
     refine Qb (λw hB=>?_)
     replace H:=H w hB
     refine (tn (zk g rfl (λhc=>?_) (λhc=>?_)))
     ·have H:=H.1 hc
      exact zI (zE (g.s rfl λ_ g=>g.s rfl λ_ g=>zL (tn (zl (tr (br (tr (tr (br (tr (ZK g rfl rfl rfl ⟨_,_,rfl,H⟩)))))))))))
     ·have H:=H.2 hc
      refine zY (tn (zLt 16 H 17 (λC3 w hC0 H=>g.kp 0 rfl hC0 (xu (zR g rfl)) λ_ g=>g.kp 1 rfl hC0 (xu (zR g rfl)) λ_ g=>g.kp 2 rfl hC0 (xu (zj g rfl H.1)) λ_ g=>?_)))
      have H:=H.2
      refine g.ko 3 rfl hC0 (zP g rfl) H λx42 a H g=>g.ko 4 rfl hC0 (zP g rfl) H λx43 a H g=>g.ko 6 rfl hC0 (zP g rfl) H λx45 a H g=>g.ko 8 rfl hC0 (zP g rfl) H λx47 a H g=>g.ko 5 rfl hC0 (zO g rfl) H λx44 a H g=>g.ko 7 rfl hC0 (zO g rfl) H λx46 a H g=>g.ko 9 rfl hC0 (zO g rfl) H λx48 a H g=>g.ko 10 rfl hC0 (Z5 g rfl) H λx49 a H g=>WK.on 11 rfl ?_
      intro K hK
      refine g.i (yj g rfl) H λx50 w a H g=>hK _ _ ⟨H.1,?_⟩
      have hC1:=H.1
      have H:=H.2
      refine WK.on 12 rfl ?_
      intro K hK
      refine g.i (zA6 g rfl) H λx51 w a H g=>hK _ _ ⟨H.1,?_⟩
      have hC2:=H.1
      have H:=H.2
      refine g.kp 13 rfl hC2 (xu (zj g rfl H.1)) λ_ g=>?_
      have H:=H.2
      refine g.ko 14 rfl hC2 (zP g rfl) H λx53 a H g=>g.ko 15 rfl hC2 (zP g rfl) H λx54 a H g=>WK.la 16 rfl ?_
      intro K hK
      refine g.wopu (zT g rfl rfl) H λw a H g=>hK _ _ (WK.nil (by kernel_rfl) ((bn (tn (zE (g.p (zr g rfl rfl) λ_ g=>g.m rfl λ_ g=>?_))))))
      rw [hK_l1] at H
      exact zL (tn ⟨(zC .i64 (x21+1)),g.k,H⟩)
    ·rcases Classical.em ((0<x21)) with hbr2|hbr2
     ·have H:=H.1 hbr2
      have g:=g.b (b:=true) (t:=28) rfl (decide_eq_true hbr2)
      exact g.e (g.t rfl λ_ g=>g.e (g.t rfl λ_ g=>g.e (g.r (zv g rfl rfl) λ_ g=>g.e (g.A (zH g rfl rfl) H λx32 a H g=>g.e (g.A (zP g rfl) H λx33 a H g=>g.e (g.A (zO g rfl) H λx34 a H g=>g.e (g.A (zP g rfl) H λx35 a H g=>g.e (g.A (zO g rfl) H λx36 a H g=>g.e (g.r (zNN g rfl rfl) λ_ g=>g.r (zx g rfl rfl) λ_ g=>hr2 (!sLt x34 x36) _ H (g.k))))))))))
     ·have H:=H.2 hbr2
      have g:=g.b (b:=false) (t:=28) rfl (decide_eq_false hbr2)
      exact g.g (λ_ g=>g.g (λ_ g=>g.g (λ_ g=>g.g (λ_ g=>g.g (λ_ g=>g.g (λ_ g=>g.g (λ_ g=>g.g (λ_ g=>g.g (λ_ g=>g.r (zy g rfl rfl) λ_ g=>hr2 false _ H (g.k))))))))))
   ·have H:=H.2 hc
    exact z7 (te (te (be (tn (zI (zE (g.m rfl λ_ g=>g.s rfl λ_ g=>g.s rfl λ_ g=>zL (tn (zl (ZK g rfl rfl rfl ⟨_,_,rfl,H⟩))))))))))
def zEA (Ret:Bool->World->Prop) (x12:Bool) (w:World):Prop:=
 Ret x12 w
def zIm (x0:zM) (w:World) (Ret:Bool->World->Prop):Prop:=
 opE zA zB (Instr.box 66 (zM.v x0)) w (λx1 w=>opE zA zB (zN 66 (.pointer x1) 0) w (λx3 w=>opE zA zZ (zD 9 (.pointer x3)) w (λx4 w=>((256<(x4.size:Int))->(zEA Ret true w))/\(¬ (256<(x4.size:Int))->(opE zA zB (zN 66 (.pointer x1) 1) w (λx8 w=>opE zA zZ (zD 9 (.pointer x8)) w (λx9 w=>zEA Ret (decide (512<(x9.size:Int))) w)))))))
set_option maxRecDepth 100000 in
theorem zMP (x0:zM) (w:World) (Ret:Bool->World->Prop) (H:zIm x0 w Ret):Cl zA 34 [(zM.v x0)].toArray w (λe w'=>∃ (r0:Bool),e=.returned (.bool r0)/\Ret r0 w'):=by
 unfold zIm at H
 refine zp 13 (zipE 0 [(zM.v x0)]) Tryz.func34 rfl rfl (by rfl) rfl ?_
 intro a g
 have g:Sat [] 13 [(0,(zM.v x0))] a:=g
 refine zI (zE (g.o (zBc g rfl) H λx1 w a H g=>g.s rfl λ_ g=>zL (tn (zI (zE (g.o (zP g rfl) H λx3 w a H g=>g.o (zO g rfl) H λx4 w a H g=>g.purR (λw=>zH4 g Tryz.underlying9 rfl) λ_ g=>g.p (zBx g rfl rfl) λ_ g=>g.m rfl λ_ g=>WL.join (ds:=[]) (N:=13) (σ:=Bool) (λs=>[(12,(.bool s))]) (λs w=>zEA Ret s w) 5 ?_ (λhr1=>?_)))))))
 ·intro x12 w a H g
  try dsimp only at H g
  unfold zEA at H
  exact g.s rfl λ_ g=>zL (tn (zl (zw g rfl rfl ⟨_,rfl,H⟩)))
 ·rcases Classical.em ((256<(x4.size:Int))) with hbr1|hbr1
  ·have H:=H.1 hbr1
   have g:=g.b (b:=true) (t:=7) rfl (decide_eq_true hbr1)
   exact g.d (λ_ g=>g.d (λ_ g=>g.d (λ_ g=>g.d (λ_ g=>g.p (zx g rfl rfl) λ_ g=>hr1 true _ _ H (g.k)))))
  ·have H:=H.2 hbr1
   have g:=g.b (b:=false) (t:=7) rfl (decide_eq_false hbr1)
   exact g.z (g.o (zP g rfl) H λx8 w a H g=>g.z (g.o (zO g rfl) H λx9 w a H g=>g.z (g.purR (λw=>zH4 g Tryz.underlying9 rfl) λ_ g=>g.z (g.p (zBx g rfl rfl) λ_ g=>g.p (zy g rfl rfl) λ_ g=>hr1 (decide (512<(x9.size:Int))) _ _ H (g.k)))))
end Go.Proofs.YtealcoghiaeiiaaGreat.VG
set_option linter.unusedVariables false
namespace Go.Proofs.YtealcoghiaeiiaaGreat.VG
open Go.VB Go.Proofs Go.RowKit
def verP (p:Pai):Ver:=⟨p.Key,1,p.Val,false⟩
def newS (l:List Pai):St:=⟨l.map verP,1,1,0,λ_=>none⟩
def zIH (p:Pai):Bool:=decide (256<(p.Key.size:Int))||decide (512<(p.Val.size:Int))
def zHB (l:List Pai) (n:Nat):Prop:=∀ j x y,j+1<n->l[j]?=some x->l[j+1]?=some y->sLt x.Key y.Key=true
theorem zRn (p:Pai) (w:World) {k:Bool->World->Prop} (H:∀ w',Bel w w'->k (zIH p) w'):Cl zA zKJ [zM.v p].toArray w (λe w'=>∃ r0:Bool,e=.returned (.bool r0)/\k r0 w'):=by
 refine zMP p w k ?_
 unfold zIm zEA
 refine zAo (cs:=p.cells) rfl λB w1 b1 hX _=>?_
 have h:=H w1 b1
 unfold zIH at h
 refine yA Y4 zh hX.at p.Key rfl ⟨λhc=>?_,λhc=>?_⟩
 ·rw [decide_eq_true hc] at h;exact h
 ·rw [decide_eq_false hc] at h
  exact yA zGM zh hX.at p.Val rfl h
abbrev zKW (sl:Sl) (low:Int) (mb:Nat):List Value:=[Sl.v sl,.int .u64 low,.int .u64 1,.int .i64 0,.map (some mb)]
theorem zPv {w:World} {x:Sl} {l:List Pai} (hd:zHL w x l) {k:Option Addr->Int->World->Prop}
  (H0:4096<l.length->k none 3 w)
  (H1:l.length<=4096->l.any zIH=true->∀ w',Bel w w'->k none 4 w')
  (H2:l.length<=4096->l.any zIH=false->¬ zHB l l.length->∀ w',Bel w w'->k none 2 w')
  (H3:l.length<=4096->l.any zIH=false->zHB l l.length->∀ b ρ w',Bel w w'->Mgr ρ w' b (newS l)->(∀ k,k<w.heap.size->ρ k=none)->k (ptrA b) 0 w'):
  Cl zA zLH [Sl.v x].toArray w (λe w'=>∃ (r0:Option Addr) (r1:Int),e=.returned (.tuple [.pointer r0,.int .i64 r1].toArray)/\k r0 r1 w'):=by
 have dbig:=hd.big;have dcap:=hd.cap;have dlen:=hd.len
 refine zON x w k ?_
 unfold zKV
 refine ⟨λhc=>H0 (by omega),λhc=>?_⟩
 have hl:l.length<=4096:=by omega
 refine zKr hd (p:=zIH) (λd _ w' k' hb hk=>.inl ⟨zKJ,[],[],rfl,zS4,zRn d w' hk⟩) λw1 b1=>⟨λhc=>H1 hl hc w1 b1,λhno=>?_⟩
 refine zOS (ek:=zV .i64) (ev:=zB) λhM=>?_
 have hB2:=Bel.alloc w1 (.map #[] 0)
 have s2:=size_alloc' w1 (.map #[] 0)
 generalize hmb:w1.heap.size=mb at hM s2 ⊢
 generalize w1.alloc (.map #[] 0)=w2 at hM hB2 s2 ⊢
 refine ⟨⟨⟨Sl.none,0⟩,1,0,some mb⟩,w2,by kernel_rfl,?_⟩
 refine zAo (cs:=zKW Sl.none 0 mb) rfl λB w3 b3 hR hB0=>⟨trivial,?_⟩
 have hmb2:mb<w2.heap.size:=by omega
 refine ⟨_,w3,xb _ _,?_⟩
 refine ⟨_,w3,zA3 _ _,?_⟩
 rw [zGQ]
 refine zIu (off:=0+1) yO hR rfl (by simp) rfl λw4 hR4 g4=>?_
 replace hR4:Row w4 B (zKW Sl.none 1 mb) zAC:=hR4
 have s3:=b3.le
 have s4:=g4.size
 have hBm:B≠mb:=by omega
 have hM4:=(hM.bel b3).grown g4 (by simpa using hBm)
 have b12:=b1.trans hB2
 have s12:=b12.le
 have b04:Bel w w4:=(b12.trans b3).grown g4 λr hr=>by cases hr;omega
 have hBl:B<w4.heap.size:=hR4.lt
 refine ⟨λi W=>∃ (n:Nat) (sl:Sl),i=(n:Int)/\n<=l.length/\Row W B (zKW sl 1 mb) zAC/\Z1 w4.heap.size W sl ((l.take n).map verP)/\zAD (zV .i64) zB W mb (λ_=>none)/\Bel w W/\w4.heap.size<=W.heap.size/\zHB l n,λi _=>(x.len - i).toNat,
  ⟨0,Sl.none,rfl,by omega,hR4,OwnS.nil _ _ _ _ _,hM4,b04,zU _,λj _ _ h=>by omega⟩,?_⟩
 rintro i W ⟨n,sl,rfl,hn,hRW,hOW,hMW,hbW,hsW,hrise⟩
 unfold zGO
 refine ⟨λhc=>?_,λhc=>?_⟩
 ·obtain ⟨p,hp⟩:=getE (l:=l) (n:=n) (by omega)
  refine zDA (hd.bel hbW) YR Zh (by omega) (x:=p) (by simpa using hp) λad hA=>?_
  refine Za YA p rfl hA rfl ?_
  refine zBa zF0 rfl YA (cs:=p.cells) rfl rfl rfl λX W1 b5 hX hX0=>?_
  have J:∀ (c:Bool),(c=true->¬ zHB l l.length)->(c=false->zHB l (n+1))->zEZ k (ptrA B) (n:Int) (λx21' w'=>(∃ (n:Nat) (sl:Sl),x21'=(n:Int)/\n<=l.length/\Row w' B (zKW sl 1 mb) zAC/\Z1 w4.heap.size w' sl ((l.take n).map verP)/\zAD (zV .i64) zB w' mb (λ_=>none)/\Bel w w'/\w4.heap.size<=w'.heap.size/\zHB l n)/\(x.len - x21').toNat<(x.len - (n:Int)).toNat) (ptrA X) c W1:=by
   intro c hc1 hc0
   unfold zEZ
   intro W2 b6
   refine ⟨λh1=>H2 hl hno (hc1 h1) W2 ((hbW.trans b5).trans b6),λh1=>?_⟩
   have hR2:=(hRW.bel b5).bel b6
   have hX2:=hX.bel b6
   have b56:=b5.trans b6
   refine ⟨λW'=>Row W' B (zKW sl 1 mb) zAC/\Row W' X p.cells zAG,λW3 b7=>⟨⟨hR2.bel b7,hX2.bel b7⟩,trivial,?_⟩⟩
   refine zFW xb ?_
   refine zFW yI ?_
   refine zFW Y4 ?_
   refine zFW zGM ?_
   refine zC3 yH sl (λW hW=>by rw [zGQ];exact hW.1.at.fld rfl) ?_
   refine zC3 zh p.Key (λW hW=>hW.2.at.fld rfl) ?_
   refine zC3 zh p.Val (λW hW=>hW.2.at.fld rfl) ?_
   refine ⟨verP p,λW hW=>by kernel_rfl,?_⟩
   refine ⟨_,_,zHN (verP p) W3,?_⟩
   have b8:=Bel.alloc W3 (.cells (verP p).cells.toArray yK)
   have hlit:zFF (W3.alloc (.cells (verP p).cells.toArray yK)) ⟨some ⟨W3.heap.size,0,none⟩,1,1⟩ [verP p]:=by
    have:=Rd.lit (c:=zG.cells) (n:=4) (λ_=>rfl) [verP p] (by simp) W3 yK
    simpa using this
   have s8:=size_alloc' W3 (.cells (verP p).cells.toArray yK)
   generalize W3.alloc (.cells (verP p).cells.toArray yK)=W4 at b8 hlit s8 ⊢
   have b58:=(b56.trans b7).trans b8
   have hR8:=(hR2.bel b7).bel b8
   have hX8:=(hX2.bel b7).bel b8
   refine ⟨⟨hR8,hX8⟩,?_⟩
   have hO8:=hOW.bel b58
   have hs8:=b58.le
   refine zOs (w0:=w) hO8 hlit (hbW.trans b58) b04.le (by omega) (by simp;omega) λsl' W5 hO9 b9 g9=>?_
   have hne:(Sl.v sl).ownBlock≠some B:=λe=>by have:=hO8.lo e;omega
   have hneX:(Sl.v sl).ownBlock≠some X:=λe=>by have:=hOW.lt e;omega
   have hnem:(Sl.v sl).ownBlock≠some mb:=λe=>by have:=hO8.lo e;omega
   have hR9:=hR8.grown g9 hne
   refine ⟨⟨hR9,hX8.grown g9 hneX⟩,trivial,?_⟩
   refine zFW xb ?_
   refine zFW yI ?_
   rw [zGQ]
   refine zIu (off:=0+0) yH hR9 (by cases sl' with|mk a l c=>cases a<;>rfl) (by simp) (by cases sl' with|mk a l c=>cases a<;>rfl) λW6 hR10 g10=>?_
   replace hR10:Row W6 B (zKW sl' 1 mb) zAC:=hR10
   rw [wr64 (by omega) (by omega)]
   have hlast:(l.take (n+1)).map verP=(l.take n).map verP++[verP p]:=by rw [zA0 hp,List.map_append];rfl
   refine ⟨⟨n+1,sl',by omega,by omega,hR10,?_,((hMW.bel b58).grown g9 hnem).grown g10 (by simpa using hBm),b9.grown g10 λr hr=>by cases hr;omega,by have:=g9.size;have:=g10.size;omega,hc0 h1⟩,by omega⟩
   rw [hlast]
   refine hO9.kept g10 (.inr λe=>?_)
   have:=hO9.lo e;omega
  refine ⟨λh0=>?_,λh0=>?_⟩
  ·obtain ⟨q,hq⟩:=getE (l:=l) (n:=n - 1) (by omega)
   have hdW:=(hd.bel hbW).bel b5
   rw [wr64 (by omega) (by omega)]
   refine zIF hdW YR Zh (by omega) (x:=q) (by rw [show ((n:Int) - 1).toNat=n - 1 from by omega];exact hq) λad hA=>?_
   refine zGV Y4 zh hA q.Key rfl ?_
   refine zGV Y4 zh hX.at p.Key rfl ?_
   refine J _ (λh1 h2=>?_) λh1=>?_
   ·have:=h2 (n - 1) q p (by omega) hq (by rw [show n - 1+1=n from by omega];exact hp)
    rw [this] at h1;cases h1
   ·intro j y z hj hy hz
    by_cases hjn:j+1<n
    ·exact hrise j y z hjn hy hz
    ·obtain rfl:j=n - 1:=by omega
     rw [hq] at hy;cases hy
     rw [show n - 1+1=n from by omega,hp] at hz;cases hz
     simpa using h1
  ·refine J false (λh=>(nomatch h)) λ_ j y z hj hy hz=>by omega
 ·obtain rfl:n=l.length:=by omega
  rw [List.take_length] at hOW
  have hold:∀ q,q<w.heap.size->q≠B/\q≠mb/\(Sl.v sl).ownBlock≠some q:=λq hq=>by
   have:=b1.le
   have:=b04.le
   exact ⟨by omega,by omega,λe=>by have:=hOW.lo e;omega⟩
  refine H3 hl hno hrise B (λq=>if q=B then some .mg else if q=mb then some .om else if (Sl.v sl).ownBlock=some q then some .ve else none) W hbW ⟨sl,mb,λ_=>⟨0,0,Sl.none⟩,?_⟩ λq hq=>?_
  ·exact {
    row:=hRW
    rmg:=if_pos rfl
    vers:=Z1.rd hOW
    rve:=λq hq=>by
     have:=hOW.lo hq
     rw [if_neg (by omega),if_neg (by omega),if_pos hq]
    mp:=hMW
    rom:=by rw [if_neg hBm.symm,if_pos rfl]
    tx:=λn t ht=>by cases ht
    lt:=λq hq=>by
     split at hq
     ·rename_i e;subst e;exact hRW.lt
     ·split at hq
      ·rename_i e;subst e;exact hMW.lt
      ·split at hq
       ·rename_i e;exact hOW.lt e
       ·exact absurd rfl hq}
  ·obtain ⟨h1,h2,h3⟩:=hold q hq
   rw [if_neg h1,if_neg h2,if_neg h3]
end Go.Proofs.YtealcoghiaeiiaaGreat.VG
set_option linter.unusedVariables false
namespace Go.Proofs.YtealcoghiaeiiaaGreat.VG
open Go.VB Go.Proofs Go.RowKit
theorem zSN {w:World} {x y:Wri} {o1 o2:Operand} {k:Bool->Prop} (H:∀ b:Bool,(b=true↔¬ x=y)->k b):
  opB zA xv (do eqGuard .neq ZB o1 o2 (zJ.v x) (zJ.v y);binOp .neq ZB (zJ.v x) (zJ.v y)) w k:=by
 obtain ⟨r,h1,h2⟩:=zLe x y o1 o2
 exact ⟨r,λw' _=>h1 w',H r h2⟩
theorem zQA {w:World} {x0 x1:Sl} {l m:List Wri} (h:zJV w x0 l) (h':zJV w x1 m) {k:Bool->World->Prop} (H:∀ r w',(r=true↔l=m)->Bel w w'->k r w'):
  Cl zA zHF [Sl.v x0,Sl.v x1].toArray w (λe w'=>∃ r0:Bool,e=.returned (.bool r0)/\k r0 w'):=by
 refine zHE x0 x1 w k ?_
 have hbig:=h.big;have hcap:=h.cap;have hlen:=h.len;have hlen':=h'.len
 unfold zCo
 refine ⟨λhc=>H false w ⟨λh=>(nomatch h),λh=>?_⟩ (Bel.refl _),λhc=>?_⟩
 ·subst h;omega
 have hc':(x0.len:Int)=x1.len:=Classical.not_not.1 hc
 refine ⟨λx w1=>∃ n:Nat,x=(n:Int)/\n<=l.length/\Bel w w1/\l.take n=m.take n,λx _=>(x0.len - x).toNat,⟨0,rfl,by omega,Bel.refl _,rfl⟩,?_⟩
 rintro x w1 ⟨n,rfl,hn,hb,hq⟩
 unfold zAr
 refine ⟨λhc=>?_,λhc=>?_⟩
 ·obtain ⟨e,he⟩:∃ e,l[n]?=some e:=⟨l[n]'(by omega),by simp⟩
  obtain ⟨f,hf⟩:∃ f,m[n]?=some f:=⟨m[n]'(by omega),by simp⟩
  refine zIF (h.bel hb) zBW zCa (by omega) (x:=e) (by simpa using he) λad hA=>?_
  refine zI2 QR e rfl hA rfl ?_
  refine zIF (h'.bel hb) zBW zCa (by omega) (x:=f) (by simpa using hf) λad' hA'=>?_
  refine zI2 QR f rfl hA' rfl ?_
  refine zSN λb hbb=>?_
  intro w2 hb2
  refine ⟨λht=>H false w2 ⟨λh=>(nomatch h),λh=>?_⟩ (hb.trans hb2),λhf0=>?_⟩
  ·subst h;rw [he] at hf;exact absurd (Option.some.inj hf) (hbb.1 ht)
  ·have hef:e=f:=Classical.not_not.1 λh=>by rw [hbb.2 h] at hf0;cases hf0
   subst hef
   rw [wr64 (by omega) (by omega)]
   exact ⟨⟨n+1,by omega,by omega,hb.trans hb2,zKF hq he hf⟩,by dsimp only;omega⟩
 ·obtain rfl:n=l.length:=by omega
  refine H true w1 ⟨λ_=>?_,λ_=>rfl⟩ hb
  rw [List.take_length,List.take_of_length_le (by omega)] at hq
  exact hq
structure Ans where
 why:Int
 tx:Int
 val:ByteArray
 is:Bool
 pairs:List Pai
 done:List Wri
 time:Int
def zJW (w:World) (x:zW) (a:Ans):Prop:=x.Why=a.why/\x.Tx=a.tx/\x.Val=a.val/\x.Is=a.is/\zHL w x.Pairs a.pairs/\zJV w x.Done a.done/\x.Time=a.time
theorem zJW.bel {w w':World} {x:zW} {a:Ans} (h:zJW w x a) (hb:Bel w w'):zJW w' x a:=⟨h.1,h.2.1,h.2.2.1,h.2.2.2.1,h.2.2.2.2.1.bel hb,h.2.2.2.2.2.1.bel hb,h.2.2.2.2.2.2⟩
end Go.Proofs.YtealcoghiaeiiaaGreat.VG
set_option linter.unusedVariables false
set_option linter.unusedSimpArgs false
namespace Go.Proofs.YtealcoghiaeiiaaGreat.VG
open Go.VB Go.Proofs
def zA1 (Ret:Bool->World->Prop) (x117:Bool) (w:World):Prop:=
 Ret x117 w
def zAy (Ret:Bool->World->Prop) (r:Option Addr) (x112:Bool) (w:World):Prop:=
 (x112=true->(Cl zA 31 [(.pointer r)].toArray w (λe w=>∃ (r_20:Int),e=.returned (.int .u64 r_20)/\(zA1 Ret (decide (r_20=2)) w))))/\(x112=false->(zA1 Ret false w))
def zA4 (Ret:Bool->World->Prop) (r:Option Addr) (r_19:Int) (x108:Bool) (w:World):Prop:=
 (x108=true->(zAy Ret r (decide (r_19=10)) w))/\(x108=false->(zAy Ret r false w))
def zBG (Ret:Bool->World->Prop) (r:Option Addr) (r_16:Int) (r_19:Int) (x104:Bool) (w:World):Prop:=
 (x104=true->(zA4 Ret r r_19 (decide (r_16=0)) w))/\(x104=false->(zA4 Ret r r_19 false w))
def zBE (Ret:Bool->World->Prop) (r:Option Addr) (r_15:Int) (r_16:Int) (r_19:Int) (x100:Bool) (w:World):Prop:=
 (x100=true->(zBG Ret r r_16 r_19 (decide (r_15=2)) w))/\(x100=false->(zBG Ret r r_16 r_19 false w))
def zBH (Ret:Bool->World->Prop) (r:Option Addr) (r_14:Sl) (r_15:Int) (r_16:Int) (r_19:Int) (x94:Bool) (w:World):Prop:=
 (x94=true->(opE zA zJ.v (yr 34 [(0,(.string (ByteArray.mk #[97]))),(1,(.string (ByteArray.mk #[50])))].toArray) w (λx97 w=>opE zA Sl.v (ze 30 1 [(0,(zJ.v x97))].toArray) w (λx98 w=>Cl zA 28 [(Sl.v r_14),(Sl.v x98)].toArray w (λe w=>∃ (r_21:Bool),e=.returned (.bool r_21)/\(zBE Ret r r_15 r_16 r_19 r_21 w))))))/\(x94=false->(zBE Ret r r_15 r_16 r_19 false w))
def zBD (Ret:Bool->World->Prop) (r:Option Addr) (r_13:Int) (r_14:Sl) (r_15:Int) (r_16:Int) (r_19:Int) (x90:Bool) (w:World):Prop:=
 (x90=true->(zBH Ret r r_14 r_15 r_16 r_19 (decide (r_13=0)) w))/\(x90=false->(zBH Ret r r_14 r_15 r_16 r_19 false w))
def zBC (Ret:Bool->World->Prop) (r:Option Addr) (r_12:Int) (r_13:Int) (r_14:Sl) (r_15:Int) (r_16:Int) (r_19:Int) (x86:Bool) (w:World):Prop:=
 (x86=true->(zBD Ret r r_13 r_14 r_15 r_16 r_19 (decide (r_12=0)) w))/\(x86=false->(zBD Ret r r_13 r_14 r_15 r_16 r_19 false w))
def zBL (Ret:Bool->World->Prop) (r:Option Addr) (r_8:Int) (r_12:Int) (r_13:Int) (r_14:Sl) (r_15:Int) (r_16:Int) (r_19:Int) (x82:Bool) (w:World):Prop:=
 (x82=true->(zBC Ret r r_12 r_13 r_14 r_15 r_16 r_19 (decide (r_8=0)) w))/\(x82=false->(zBC Ret r r_12 r_13 r_14 r_15 r_16 r_19 false w))
def zBI (Ret:Bool->World->Prop) (r:Option Addr) (r_7:Bool) (r_8:Int) (r_12:Int) (r_13:Int) (r_14:Sl) (r_15:Int) (r_16:Int) (r_19:Int) (x79:Bool) (w:World):Prop:=
 (x79=true->(zBL Ret r r_8 r_12 r_13 r_14 r_15 r_16 r_19 r_7 w))/\(x79=false->(zBL Ret r r_8 r_12 r_13 r_14 r_15 r_16 r_19 false w))
def zBO (Ret:Bool->World->Prop) (r:Option Addr) (r_6:ByteArray) (r_7:Bool) (r_8:Int) (r_12:Int) (r_13:Int) (r_14:Sl) (r_15:Int) (r_16:Int) (r_19:Int) (x75:Bool) (w:World):Prop:=
 (x75=true->(zBI Ret r r_7 r_8 r_12 r_13 r_14 r_15 r_16 r_19 (decide (r_6=(ByteArray.mk #[49]))) w))/\(x75=false->(zBI Ret r r_7 r_8 r_12 r_13 r_14 r_15 r_16 r_19 false w))
def zBU (Ret:Bool->World->Prop) (r:Option Addr) (r_4:Int) (r_6:ByteArray) (r_7:Bool) (r_8:Int) (r_12:Int) (r_13:Int) (r_14:Sl) (r_15:Int) (r_16:Int) (r_19:Int) (x71:Bool) (w:World):Prop:=
 (x71=true->(zBO Ret r r_6 r_7 r_8 r_12 r_13 r_14 r_15 r_16 r_19 (decide (r_4=2)) w))/\(x71=false->(zBO Ret r r_6 r_7 r_8 r_12 r_13 r_14 r_15 r_16 r_19 false w))
def zEs (w:World) (Ret:Bool->World->Prop):Prop:=
 opE zA zM.v (yr 66 [(0,(.string (ByteArray.mk #[97]))),(1,(.string (ByteArray.mk #[49])))].toArray) w (λx19 w=>opE zA Sl.v (ze 22 1 [(0,(zM.v x19))].toArray) w (λx20 w=>Cl zA 11 [(Sl.v x20)].toArray w (λe w=>∃ (r:Option Addr) (r_1:Int),e=.returned (.tuple [(.pointer r),(.int .i64 r_1)].toArray)/\(opE zA xv (do eqGuard .eql 26 (.tmp 24) (.const (.pointer none)) (.pointer r) (.pointer none);binOp .eql 26 (.pointer r) (.pointer none)) w (λx25 w=>(x25=true->(Ret false w))/\(x25=false->(Cl zA 12 [(.pointer r)].toArray w (λe w=>∃ (r_2:Int) (r_3:Int),e=.returned (.tuple [(.int .i64 r_2),(.int .i64 r_3)].toArray)/\(Cl zA 12 [(.pointer r)].toArray w (λe w=>∃ (r_4:Int) (r_5:Int),e=.returned (.tuple [(.int .i64 r_4),(.int .i64 r_5)].toArray)/\(Cl zA 22 [(.pointer r),(.int .i64 r_2),(.string (ByteArray.mk #[97]))].toArray w (λe w=>∃ (r_6:ByteArray) (r_7:Bool) (r_8:Int),e=.returned (.tuple [(.string r_6),(.bool r_7),(.int .i64 r_8)].toArray)/\(Cl zA 22 [(.pointer r),(.int .i64 r_4),(.string (ByteArray.mk #[97]))].toArray w (λe w=>∃ (r_9:ByteArray) (r_10:Bool) (r_11:Int),e=.returned (.tuple [(.string r_9),(.bool r_10),(.int .i64 r_11)].toArray)/\(Cl zA 14 [(.pointer r),(.int .i64 r_2),(.string (ByteArray.mk #[97])),(.string (ByteArray.mk #[50]))].toArray w (λe w=>∃ (r_12:Int),e=.returned (.int .i64 r_12)/\(Cl zA 14 [(.pointer r),(.int .i64 r_4),(.string (ByteArray.mk #[97])),(.string (ByteArray.mk #[51]))].toArray w (λe w=>∃ (r_13:Int),e=.returned (.int .i64 r_13)/\(Cl zA 15 [(.pointer r),(.int .i64 r_2)].toArray w (λe w=>∃ (r_14:Sl) (r_15:Int) (r_16:Int),e=.returned (.tuple [(Sl.v r_14),(.int .u64 r_15),(.int .i64 r_16)].toArray)/\(Cl zA 15 [(.pointer r),(.int .i64 r_4)].toArray w (λe w=>∃ (r_17:Sl) (r_18:Int) (r_19:Int),e=.returned (.tuple [(Sl.v r_17),(.int .u64 r_18),(.int .i64 r_19)].toArray)/\(((r_1=0)->(zBU Ret r r_4 r_6 r_7 r_8 r_12 r_13 r_14 r_15 r_16 r_19 (decide (r_2=1)) w))/\(¬ (r_1=0)->(zBU Ret r r_4 r_6 r_7 r_8 r_12 r_13 r_14 r_15 r_16 r_19 false w)))))))))))))))))))))))))
set_option maxRecDepth 100000 in
theorem zIn (w:World) (Ret:Bool->World->Prop) (H:zEs w Ret):Cl zA 10 [].toArray w (λe w'=>∃ (r0:Bool),e=.returned (.bool r0)/\Ret r0 w'):=by
 unfold zEs at H
 refine zp 118 (zipE 0 []) Tryz.func10 rfl rfl (by rfl) rfl ?_
 intro a g
 have g:Sat [] 118 [] a:=g
 refine zI (zE (g.s rfl λ_ g=>zL (tn (zI (zE (g.o (Z5 g rfl) H λx19 w a H g=>g.o (yj g rfl) H λx20 w a H g=>g.c (zb g zRu rfl rfl) H λe w H=>?_))))))
 obtain ⟨r,r_1,rfl,H⟩:=H
 refine ⟨_,rfl,λ_ g=>(g.m rfl λ_ g=>g.p (zc g rfl rfl) λ_ g=>g.p (zc g rfl rfl) λ_ g=>g.s rfl λ_ g=>g.s rfl λ_ g=>zL (tn (zI (zI (zE (g.m rfl λ_ g=>g.o (zCz g rfl rfl) H λx25 w a H g=>zL (tn (zk g rfl (λhc=>?_) (λhc=>?_)))))))))⟩
 ·have H:=H.1 hc
  exact zI (zE (g.s rfl λ_ g=>zL (tn (zl (tr (zw g rfl rfl ⟨_,rfl,H⟩))))))
 ·have H:=H.2 hc
  refine zY (tn (zI (zE (g.m rfl λ_ g=>g.c (zb g zOe rfl rfl) H λe w H=>?_))))
  obtain ⟨r_2,r_3,rfl,H⟩:=H
  refine ⟨_,rfl,λ_ g=>(g.m rfl λ_ g=>g.p (zc g rfl rfl) λ_ g=>g.p (zc g rfl rfl) λ_ g=>g.s rfl λ_ g=>g.s rfl λ_ g=>zL (tn (zI (zE (g.m rfl λ_ g=>g.c (zb g zOe rfl rfl) H λe w H=>?_)))))⟩
  obtain ⟨r_4,r_5,rfl,H⟩:=H
  refine ⟨_,rfl,λ_ g=>(g.m rfl λ_ g=>g.p (zc g rfl rfl) λ_ g=>g.p (zc g rfl rfl) λ_ g=>g.s rfl λ_ g=>g.s rfl λ_ g=>zL (tn (zI (zE (g.m rfl λ_ g=>g.m rfl λ_ g=>g.c (zb g zQX rfl rfl) H λe w H=>?_)))))⟩
  obtain ⟨r_6,r_7,r_8,rfl,H⟩:=H
  refine ⟨_,rfl,λ_ g=>(g.m rfl λ_ g=>g.p (zc g rfl rfl) λ_ g=>g.p (zc g rfl rfl) λ_ g=>g.p (zc g rfl rfl) λ_ g=>g.s rfl λ_ g=>g.s rfl λ_ g=>g.s rfl λ_ g=>zL (tn (zI (zE (g.m rfl λ_ g=>g.m rfl λ_ g=>g.c (zb g zQX rfl rfl) H λe w H=>?_)))))⟩
  obtain ⟨r_9,r_10,r_11,rfl,H⟩:=H
  refine ⟨_,rfl,λ_ g=>(zL (tn (zI (zE (g.m rfl λ_ g=>g.m rfl λ_ g=>g.c (zb g zP5 rfl rfl) H λe w H=>?_)))))⟩
  obtain ⟨r_12,rfl,H⟩:=H
  refine ⟨_,rfl,λ_ g=>(g.m rfl λ_ g=>g.m rfl λ_ g=>g.c (zb g zP5 rfl rfl) H λe w H=>?_)⟩
  obtain ⟨r_13,rfl,H⟩:=H
  refine ⟨_,rfl,λ_ g=>(g.s rfl λ_ g=>g.s rfl λ_ g=>zL (tn (zI (zE (g.m rfl λ_ g=>g.m rfl λ_ g=>g.c (zb g zQV rfl rfl) H λe w H=>?_)))))⟩
  obtain ⟨r_14,r_15,r_16,rfl,H⟩:=H
  refine ⟨_,rfl,λ_ g=>(g.m rfl λ_ g=>g.p (zc g rfl rfl) λ_ g=>g.p (zc g rfl rfl) λ_ g=>g.p (zc g rfl rfl) λ_ g=>g.s rfl λ_ g=>g.s rfl λ_ g=>g.s rfl λ_ g=>zL (tn (zI (zE (g.m rfl λ_ g=>g.m rfl λ_ g=>g.c (zb g zQV rfl rfl) H λe w H=>?_)))))⟩
  obtain ⟨r_17,r_18,r_19,rfl,H⟩:=H
  refine ⟨_,rfl,λ_ g=>(g.m rfl λ_ g=>g.p (zc g rfl rfl) λ_ g=>g.p (zc g rfl rfl) λ_ g=>g.p (zc g rfl rfl) λ_ g=>g.s rfl λ_ g=>g.s rfl λ_ g=>g.s rfl λ_ g=>zL (tn (zI (zE (g.m rfl λ_ g=>g.p (Zb g rfl rfl) λ_ g=>g.m rfl λ_ g=>WL.join (ds:=[]) (N:=118) (σ:=Bool) (λs=>[(71,(.bool s)),(1,(.pointer r)),(5,(.int .i64 r_4)),(7,(.string r_6)),(8,(.bool r_7)),(9,(.int .i64 r_8)),(10,(.int .i64 r_12)),(11,(.int .i64 r_13)),(12,(Sl.v r_14)),(13,(.int .u64 r_15)),(14,(.int .i64 r_16)),(17,(.int .i64 r_19))]) (λs w=>zBU Ret r r_4 r_6 r_7 r_8 r_12 r_13 r_14 r_15 r_16 r_19 s w) 3 ?_ (λhr1=>?_))))))⟩
  ·intro x71 w a H g
   try dsimp only at H g
   unfold zBU at H
   refine g.m rfl λ_ g=>WL.join (ds:=[]) (N:=118) (σ:=Bool) (λs=>[(75,(.bool s)),(1,(.pointer r)),(7,(.string r_6)),(8,(.bool r_7)),(9,(.int .i64 r_8)),(10,(.int .i64 r_12)),(11,(.int .i64 r_13)),(12,(Sl.v r_14)),(13,(.int .u64 r_15)),(14,(.int .i64 r_16)),(17,(.int .i64 r_19))]) (λs w=>zBO Ret r r_6 r_7 r_8 r_12 r_13 r_14 r_15 r_16 r_19 s w) 3 ?_ (λhr2=>?_)
   ·intro x75 w a H g
    try dsimp only at H g
    unfold zBO at H
    refine g.m rfl λ_ g=>WL.join (ds:=[]) (N:=118) (σ:=Bool) (λs=>[(79,(.bool s)),(1,(.pointer r)),(8,(.bool r_7)),(9,(.int .i64 r_8)),(10,(.int .i64 r_12)),(11,(.int .i64 r_13)),(12,(Sl.v r_14)),(13,(.int .u64 r_15)),(14,(.int .i64 r_16)),(17,(.int .i64 r_19))]) (λs w=>zBI Ret r r_7 r_8 r_12 r_13 r_14 r_15 r_16 r_19 s w) 3 ?_ (λhr3=>?_)
    ·intro x79 w a H g
     try dsimp only at H g
     unfold zBI at H
     refine g.m rfl λ_ g=>WL.join (ds:=[]) (N:=118) (σ:=Bool) (λs=>[(82,(.bool s)),(1,(.pointer r)),(9,(.int .i64 r_8)),(10,(.int .i64 r_12)),(11,(.int .i64 r_13)),(12,(Sl.v r_14)),(13,(.int .u64 r_15)),(14,(.int .i64 r_16)),(17,(.int .i64 r_19))]) (λs w=>zBL Ret r r_8 r_12 r_13 r_14 r_15 r_16 r_19 s w) 2 ?_ (λhr4=>?_)
     ·intro x82 w a H g
      try dsimp only at H g
      unfold zBL at H
      refine g.m rfl λ_ g=>WL.join (ds:=[]) (N:=118) (σ:=Bool) (λs=>[(86,(.bool s)),(1,(.pointer r)),(10,(.int .i64 r_12)),(11,(.int .i64 r_13)),(12,(Sl.v r_14)),(13,(.int .u64 r_15)),(14,(.int .i64 r_16)),(17,(.int .i64 r_19))]) (λs w=>zBC Ret r r_12 r_13 r_14 r_15 r_16 r_19 s w) 3 ?_ (λhr5=>?_)
      ·intro x86 w a H g
       try dsimp only at H g
       unfold zBC at H
       refine g.m rfl λ_ g=>WL.join (ds:=[]) (N:=118) (σ:=Bool) (λs=>[(90,(.bool s)),(1,(.pointer r)),(11,(.int .i64 r_13)),(12,(Sl.v r_14)),(13,(.int .u64 r_15)),(14,(.int .i64 r_16)),(17,(.int .i64 r_19))]) (λs w=>zBD Ret r r_13 r_14 r_15 r_16 r_19 s w) 3 ?_ (λhr6=>?_)
       ·intro x90 w a H g
        try dsimp only at H g
        unfold zBD at H
        refine g.m rfl λ_ g=>WL.join (ds:=[]) (N:=118) (σ:=Bool) (λs=>[(94,(.bool s)),(1,(.pointer r)),(12,(Sl.v r_14)),(13,(.int .u64 r_15)),(14,(.int .i64 r_16)),(17,(.int .i64 r_19))]) (λs w=>zBH Ret r r_14 r_15 r_16 r_19 s w) 3 ?_ (λhr7=>?_)
        ·intro x94 w a H g
         try dsimp only at H g
         unfold zBH at H
         refine g.m rfl λ_ g=>WL.join (ds:=[]) (N:=118) (σ:=Bool) (λs=>[(100,(.bool s)),(1,(.pointer r)),(13,(.int .u64 r_15)),(14,(.int .i64 r_16)),(17,(.int .i64 r_19))]) (λs w=>zBE Ret r r_15 r_16 r_19 s w) 5 ?_ (λhr8=>?_)
         ·intro x100 w a H g
          try dsimp only at H g
          unfold zBE at H
          refine g.m rfl λ_ g=>WL.join (ds:=[]) (N:=118) (σ:=Bool) (λs=>[(104,(.bool s)),(1,(.pointer r)),(14,(.int .i64 r_16)),(17,(.int .i64 r_19))]) (λs w=>zBG Ret r r_16 r_19 s w) 3 ?_ (λhr9=>?_)
          ·intro x104 w a H g
           try dsimp only at H g
           unfold zBG at H
           refine g.m rfl λ_ g=>WL.join (ds:=[]) (N:=118) (σ:=Bool) (λs=>[(108,(.bool s)),(1,(.pointer r)),(17,(.int .i64 r_19))]) (λs w=>zA4 Ret r r_19 s w) 3 ?_ (λhr10=>?_)
           ·intro x108 w a H g
            try dsimp only at H g
            unfold zA4 at H
            refine g.m rfl λ_ g=>WL.join (ds:=[]) (N:=118) (σ:=Bool) (λs=>[(112,(.bool s)),(1,(.pointer r))]) (λs w=>zAy Ret r s w) 3 ?_ (λhr11=>?_)
            ·intro x112 w a H g
             try dsimp only at H g
             unfold zAy at H
             refine g.m rfl λ_ g=>WL.join (ds:=[]) (N:=118) (σ:=Bool) (λs=>[(117,(.bool s))]) (λs w=>zA1 Ret s w) 4 ?_ (λhr12=>?_)
             ·intro x117 w a H g
              try dsimp only at H g
              unfold zA1 at H
              exact g.s rfl λ_ g=>zL (tn (zl (zw g rfl rfl ⟨_,rfl,H⟩)))
             ·rcases Bool.eq_false_or_eq_true (x112) with hbr12|hbr12
              ·have H:=H.1 hbr12
               have g:=g.b (b:=true) (t:=113) rfl (hbr12)
               refine g.z (g.m rfl λ_ g=>g.z (g.c (zb g zTB rfl rfl) H λe w H=>?_))
               obtain ⟨r_20,rfl,H⟩:=H
               exact ⟨_,rfl,λ_ g=>(g.z (g.p (Zb g rfl rfl) λ_ g=>g.p (zx g rfl rfl) λ_ g=>hr12 (decide (r_20=2)) _ _ H (g.k)))⟩
              ·have H:=H.2 hbr12
               have g:=g.b (b:=false) (t:=113) rfl (hbr12)
               exact g.d (λ_ g=>g.d (λ_ g=>g.d (λ_ g=>g.p (zy g rfl rfl) λ_ g=>hr12 false _ _ H (g.k))))
            ·rcases Bool.eq_false_or_eq_true (x108) with hbr11|hbr11
             ·have H:=H.1 hbr11
              have g:=g.b (b:=true) (t:=109) rfl (hbr11)
              exact g.z (g.m rfl λ_ g=>g.z (g.p (Zb g rfl rfl) λ_ g=>g.p (zx g rfl rfl) λ_ g=>hr11 (decide (r_19=10)) _ _ H (g.k)))
             ·have H:=H.2 hbr11
              have g:=g.b (b:=false) (t:=109) rfl (hbr11)
              exact g.d (λ_ g=>g.d (λ_ g=>g.p (zy g rfl rfl) λ_ g=>hr11 false _ _ H (g.k)))
           ·rcases Bool.eq_false_or_eq_true (x104) with hbr10|hbr10
            ·have H:=H.1 hbr10
             have g:=g.b (b:=true) (t:=105) rfl (hbr10)
             exact g.z (g.m rfl λ_ g=>g.z (g.p (Zb g rfl rfl) λ_ g=>g.p (zx g rfl rfl) λ_ g=>hr10 (decide (r_16=0)) _ _ H (g.k)))
            ·have H:=H.2 hbr10
             have g:=g.b (b:=false) (t:=105) rfl (hbr10)
             exact g.d (λ_ g=>g.d (λ_ g=>g.p (zy g rfl rfl) λ_ g=>hr10 false _ _ H (g.k)))
          ·rcases Bool.eq_false_or_eq_true (x100) with hbr9|hbr9
           ·have H:=H.1 hbr9
            have g:=g.b (b:=true) (t:=101) rfl (hbr9)
            exact g.z (g.m rfl λ_ g=>g.z (g.p (Zb g rfl rfl) λ_ g=>g.p (zx g rfl rfl) λ_ g=>hr9 (decide (r_15=2)) _ _ H (g.k)))
           ·have H:=H.2 hbr9
            have g:=g.b (b:=false) (t:=101) rfl (hbr9)
            exact g.d (λ_ g=>g.d (λ_ g=>g.p (zy g rfl rfl) λ_ g=>hr9 false _ _ H (g.k)))
         ·rcases Bool.eq_false_or_eq_true (x94) with hbr8|hbr8
          ·have H:=H.1 hbr8
           have g:=g.b (b:=true) (t:=95) rfl (hbr8)
           refine g.z (g.m rfl λ_ g=>g.z (g.o (Z5 g rfl) H λx97 w a H g=>g.z (g.o (yj g rfl) H λx98 w a H g=>g.z (g.c (zb g zTF rfl rfl) H λe w H=>?_))))
           obtain ⟨r_21,rfl,H⟩:=H
           exact ⟨_,rfl,λ_ g=>(g.p (zx g rfl rfl) λ_ g=>hr8 r_21 _ _ H (g.k))⟩
          ·have H:=H.2 hbr8
           have g:=g.b (b:=false) (t:=95) rfl (hbr8)
           exact g.d (λ_ g=>g.d (λ_ g=>g.d (λ_ g=>g.d (λ_ g=>g.p (zy g rfl rfl) λ_ g=>hr8 false _ _ H (g.k)))))
        ·rcases Bool.eq_false_or_eq_true (x90) with hbr7|hbr7
         ·have H:=H.1 hbr7
          have g:=g.b (b:=true) (t:=91) rfl (hbr7)
          exact g.z (g.m rfl λ_ g=>g.z (g.p (Zb g rfl rfl) λ_ g=>g.p (zx g rfl rfl) λ_ g=>hr7 (decide (r_13=0)) _ _ H (g.k)))
         ·have H:=H.2 hbr7
          have g:=g.b (b:=false) (t:=91) rfl (hbr7)
          exact g.d (λ_ g=>g.d (λ_ g=>g.p (zy g rfl rfl) λ_ g=>hr7 false _ _ H (g.k)))
       ·rcases Bool.eq_false_or_eq_true (x86) with hbr6|hbr6
        ·have H:=H.1 hbr6
         have g:=g.b (b:=true) (t:=87) rfl (hbr6)
         exact g.z (g.m rfl λ_ g=>g.z (g.p (Zb g rfl rfl) λ_ g=>g.p (zx g rfl rfl) λ_ g=>hr6 (decide (r_12=0)) _ _ H (g.k)))
        ·have H:=H.2 hbr6
         have g:=g.b (b:=false) (t:=87) rfl (hbr6)
         exact g.d (λ_ g=>g.d (λ_ g=>g.p (zy g rfl rfl) λ_ g=>hr6 false _ _ H (g.k)))
      ·rcases Bool.eq_false_or_eq_true (x82) with hbr5|hbr5
       ·have H:=H.1 hbr5
        have g:=g.b (b:=true) (t:=83) rfl (hbr5)
        exact g.z (g.m rfl λ_ g=>g.z (g.p (Zb g rfl rfl) λ_ g=>g.p (zx g rfl rfl) λ_ g=>hr5 (decide (r_8=0)) _ _ H (g.k)))
       ·have H:=H.2 hbr5
        have g:=g.b (b:=false) (t:=83) rfl (hbr5)
        exact g.d (λ_ g=>g.d (λ_ g=>g.p (zy g rfl rfl) λ_ g=>hr5 false _ _ H (g.k)))
     ·rcases Bool.eq_false_or_eq_true (x79) with hbr4|hbr4
      ·have H:=H.1 hbr4
       have g:=g.b (b:=true) (t:=80) rfl (hbr4)
       exact g.z (g.m rfl λ_ g=>g.p (zx g rfl rfl) λ_ g=>hr4 r_7 _ _ H (g.k))
      ·have H:=H.2 hbr4
       have g:=g.b (b:=false) (t:=80) rfl (hbr4)
       exact g.d (λ_ g=>g.p (zy g rfl rfl) λ_ g=>hr4 false _ _ H (g.k))
    ·rcases Bool.eq_false_or_eq_true (x75) with hbr3|hbr3
     ·have H:=H.1 hbr3
      have g:=g.b (b:=true) (t:=76) rfl (hbr3)
      exact g.z (g.m rfl λ_ g=>g.z (g.p (zLJ g rfl rfl) λ_ g=>g.p (zx g rfl rfl) λ_ g=>hr3 (decide (r_6=(ByteArray.mk #[49]))) _ _ H (g.k)))
     ·have H:=H.2 hbr3
      have g:=g.b (b:=false) (t:=76) rfl (hbr3)
      exact g.d (λ_ g=>g.d (λ_ g=>g.p (zy g rfl rfl) λ_ g=>hr3 false _ _ H (g.k)))
   ·rcases Bool.eq_false_or_eq_true (x71) with hbr2|hbr2
    ·have H:=H.1 hbr2
     have g:=g.b (b:=true) (t:=72) rfl (hbr2)
     exact g.z (g.m rfl λ_ g=>g.z (g.p (Zb g rfl rfl) λ_ g=>g.p (zx g rfl rfl) λ_ g=>hr2 (decide (r_4=2)) _ _ H (g.k)))
    ·have H:=H.2 hbr2
     have g:=g.b (b:=false) (t:=72) rfl (hbr2)
     exact g.d (λ_ g=>g.d (λ_ g=>g.p (zy g rfl rfl) λ_ g=>hr2 false _ _ H (g.k)))
  ·rcases Classical.em ((r_1=0)) with hbr1|hbr1
   ·have H:=H.1 hbr1
    have g:=g.b (b:=true) (t:=68) rfl (decide_eq_true hbr1)
    exact g.z (g.m rfl λ_ g=>g.z (g.p (Zb g rfl rfl) λ_ g=>g.p (zx g rfl rfl) λ_ g=>hr1 (decide (r_2=1)) _ _ H (g.k)))
   ·have H:=H.2 hbr1
    have g:=g.b (b:=false) (t:=68) rfl (decide_eq_false hbr1)
    exact g.d (λ_ g=>g.d (λ_ g=>g.p (zy g rfl rfl) λ_ g=>hr1 false _ _ H (g.k)))
end Go.Proofs.YtealcoghiaeiiaaGreat.VG
set_option linter.unusedVariables false
namespace Go.Proofs.YtealcoghiaeiiaaGreat.VG
open Go.VB Go.Proofs Go.RowKit
theorem zMs {κ ν:Type} {f:κ->Option ν} {ks D:List κ} (h:Doms f ks) (hD:∀ k v,f k=some v->k∈D):ks.length<=D.length:=zGT h.1 λk hk=>by
 obtain ⟨v,hv⟩:=(h.2 k).1 hk;exact hD k v hv
theorem zL6 (s:St) (n:Int):(zAB s n).now=s.now:=by unfold zAB zKH;split<;>rfl
theorem zHg (s:St) (n:Int):(zAB s n).tx=del s.tx n:=by unfold zAB zKH;split<;>rfl
abbrev t3:ByteArray:=ByteArray.mk #[51]
abbrev l1:List Pai:=[⟨tA,t1⟩]
abbrev v1:Ver:=⟨tA,1,t1,false⟩
abbrev wX:Wri:=⟨tA,t2,false⟩
theorem zR4:zCt [v1] 1:=zK4 (by decide) (by decide) (by intro x hx;simp at hx;subst hx;exact ⟨by decide,by decide,λh=>(nomatch h),by decide,by decide⟩) (by simp)
theorem zR8:pwhy [v1] 1 [wX] 2=0:=zFa.2 ⟨zR4,zGZ.2 ⟨by decide,by intro w hw;simp at hw;subst hw;unfold zBn;decide,by simp [zDw]⟩,by decide,by decide,by decide,by intro x hx;simp at hx;subst hx;decide,by decide⟩
theorem put1:vput [v1] 1 [wX] 2=(putL [v1] 2 [wX],1,0):=by unfold vput;rw [if_neg (by rw [zR8];decide)]
theorem zNW {s:St} {ks:List Int} (hd:Doms s.tx ks):∃ lo,zHM s lo:=by
 have:∀ ks:List Int,∃ lo,lo<=s.now/\(∀ k∈ks,∀ t,s.tx k=some t->lo<=t.began)/\(lo=s.now∨∃ k t,s.tx k=some t/\lo=t.began):=by
  intro ks
  induction ks with
  |nil=>exact ⟨s.now,Int.le_refl _,by simp,.inl rfl⟩
  |cons k ks ih=>
   obtain ⟨lo,h1,h2,h3⟩:=ih
   cases ht:s.tx k with
   |none=>exact ⟨lo,h1,λj hj t hjt=>by
     rcases List.mem_cons.1 hj with e|e
     ·subst e;rw [ht] at hjt;cases hjt
     ·exact h2 j e t hjt,h3⟩
   |some u=>
    by_cases hu:u.began<lo
    ·exact ⟨u.began,by omega,λj hj t hjt=>by
      rcases List.mem_cons.1 hj with e|e
      ·subst e;rw [ht] at hjt;cases hjt;exact Int.le_refl _
      ·have:=h2 j e t hjt;omega,.inr ⟨k,u,ht,rfl⟩⟩
    ·exact ⟨lo,h1,λj hj t hjt=>by
      rcases List.mem_cons.1 hj with e|e
      ·subst e;rw [ht] at hjt;cases hjt;omega
      ·exact h2 j e t hjt,h3⟩
 obtain ⟨lo,h1,h2,h3⟩:=this ks
 exact ⟨lo,h1,λn t ht=>h2 n ((hd.2 n).2 ⟨t,ht⟩) t ht,h3⟩
theorem zRA {s:St} {n:Int} {v:Ver} (hv:v∈s.l) (hs:s.l.Pairwise vlt) {m:Int} {t:Tx} (ht:s.tx m=some t) (hm:m≠n) (ha:t.began<v.At) (hlow:∃ lo,zHM (delTx s n) lo):v∈(zAB s n).l:=by
 unfold zAB zKH
 split
 ·rename_i h
  obtain ⟨h1,h2,h3,h4⟩:=zPP h
  show v∈(zDh (delTx s n).l (delTx s n).low (zLV (delTx s n))).1
  rw [h4]
  obtain ⟨lo,hlo⟩:=hlow
  have h5:lo<=t.began:=hlo.all m t (by show del s.tx n m=_;rw [zBv _ hm];exact ht)
  have h6:=hlo.eq
  exact (zK6 hs).2 ⟨hv,λy _ _ h=>by omega,λh=>by omega⟩
 ·exact hv
theorem zQq (w:World) {k:Bool->World->Prop} (H:∀ w',Bel w w'->k true w'):Cl zA zIx [].toArray w (λe w'=>∃ r0:Bool,e=.returned (.bool r0)/\k r0 w'):=by
 refine zIn w k ?_
 unfold zEs
 refine ⟨⟨tA,t1⟩,w,by kernel_rfl,?_⟩
 have hl1:=Rd.lit (c:=zM.cells) (n:=2) (λ_=>rfl) l1 (by decide) w zAG
 have b1:Bel w (w.alloc (.cells (l1.flatMap zM.cells).toArray zAG)):=Bel.alloc _ _
 refine ⟨⟨some ⟨w.heap.size,0,none⟩,1,1⟩,(w.alloc (.cells (l1.flatMap zM.cells).toArray zAG)),by kernel_rfl,?_⟩
 generalize (w.alloc (.cells (l1.flatMap zM.cells).toArray zAG))=w1 at hl1 b1 ⊢
 have hnl:l1.any zIH=false:=by decide
 refine zPv (l:=l1) hl1 (λh=>absurd h (by decide)) (λ_ h=>absurd h (by rw [hnl];decide)) (λ_ _ h=>absurd (λj x y hj hx hy=>by simp at hj) h) λ_ _ _ b ρ w2 b2 m2 hρ=>?_
 have b02:=b1.trans b2
 have hρ0:∀ q,q<w.heap.size->ρ q=none:=λq hq=>hρ q (yF hq b1.le)
 refine zLR _ ⟨λh=>(nomatch h),λ_=>?_⟩
 have hd0:∀ {ks},Doms (newS l1).tx ks->ks.length<=([]:List Int).length:=λh=>zMs h λq v hv=>by cases hv
 refine zLF m2 (by decide) (by decide) rfl (λks hks h=>by exfalso;have:=hd0 hks;simp only [List.length_nil] at this;omega) λks ρ3 w3 _ _ m3 e3=>?_
 let T0:Tx:=zGa (newS l1)
 have tx1:(zFg (newS l1)).tx=upd (λ_=>none) 1 T0:=rfl
 have hd1:∀ {ks},Doms (zFg (newS l1)).tx ks->ks.length<=([1]:List Int).length:=λh=>zMs h λq v hv=>by
  by_cases hq:q=1
  ·subst hq;simp
  ·rw [tx1,yU _ _ hq] at hv;cases hv
 refine zLF m3 (by show (0:Int)<=0+1;decide) (by show (0:Int)+1<_;decide) (by rw [tx1];exact yU _ _ (by show (0:Int)+1+1≠1;decide)) (λks hks h=>by exfalso;have:=hd1 hks;simp only [List.length_cons,List.length_nil] at this;omega) λks ρ4 w4 _ _ m4 e4=>?_
 have e24:=e3.trans e4
 generalize hS2:zFg (zFg (newS l1))=S2 at m4
 have n2:S2.now=1:=by rw [← hS2];rfl
 have l2:S2.l=[v1]:=by rw [← hS2];rfl
 have lo2:S2.low=1:=by rw [← hS2];rfl
 have x21:S2.tx 1=some T0:=by rw [← hS2];show upd (zFg (newS l1)).tx 2 _ 1=_;rw [yU _ _ (by decide),tx1,Ql]
 have x22:S2.tx 2=some T0:=by rw [← hS2];show upd (zFg (newS l1)).tx 2 _ 2=_;rw [Ql];rfl
 have x2o:∀ q,q≠1->q≠2->S2.tx q=none:=λq h1 h2=>by rw [← hS2];show upd (zFg (newS l1)).tx 2 _ q=_;rw [yU _ _ h2,tx1,yU _ _ h1]
 clear hS2
 refine zOR m4 1 tA (λh=>by rw [x21] at h;cases h) (λt _ h=>absurd h (by decide)) (λt ht _ h=>by rw [x21] at ht;cases ht;simp [T0,zGa] at h) λt ρ5 w5 ht _ _ m5 e5=>?_
 rw [x21] at ht;cases ht
 have hget:tget S2 T0 tA=(t1,true,0):=by
  show vget S2.l S2.low tA 1=_
  rw [l2,lo2,zRj zR4 (by decide),show ([v1]:List Ver)=[v1] from rfl,zNL,if_pos ⟨rfl,by decide⟩];rfl
 rw [hget]
 let T1:Tx:=addR T0 (zHP tA)
 have x31:(setTx S2 1 T1).tx 1=some T1:=by simp [setTx,Ql]
 have x32:(setTx S2 1 T1).tx 2=some T0:=by simp only [setTx];rw [yU _ _ (by decide)];exact x22
 refine zOR m5 2 tA (λh=>by rw [x32] at h;cases h) (λt _ h=>absurd h (by decide)) (λt ht _ h=>by rw [x32] at ht;cases ht;simp [T0,zGa] at h) λt ρ6 w6 ht _ _ m6 e6=>?_
 rw [x32] at ht;cases ht
 have e26:=(e24.trans e5).trans e6
 generalize hS4:setTx (setTx S2 1 T1) 2 (addR T0 (zHP tA))=S4 at m6
 have x41:S4.tx 1=some T1:=by rw [← hS4];simp only [setTx];rw [yU _ _ (by decide),Ql]
 have x42:S4.tx 2=some T1:=by rw [← hS4];simp only [setTx];rw [Ql]
 have x4o:∀ q,q≠1->q≠2->S4.tx q=none:=λq h1 h2=>by rw [← hS4];simp only [setTx];rw [yU _ _ h2,yU _ _ h1];exact x2o q h1 h2
 have n4:S4.now=1:=by rw [← hS4];exact n2
 have l4:S4.l=[v1]:=by rw [← hS4];exact l2
 have lo4:S4.low=1:=by rw [← hS4];exact lo2
 clear hS4
 have hnoW:∀ {ks},Doms T1.wr ks->ks.length<=([]:List ByteArray).length:=λh=>zMs h λq v hv=>by cases hv
 refine zN1 1 tA t2 (zLO m6 1 ⟨tA,t2,false⟩ (λh=>by rw [x41] at h;cases h) (λt _ h=>absurd h (by unfold zBn;decide)) (λt ks ht _ _ hks h=>by rw [x41] at ht;cases ht;have:=hnoW hks;simp only [List.length_nil] at this;exfalso;omega) λt w7 ht _ _ m7 e7=>?_)
 rw [x41] at ht;cases ht
 let P1:Tx:=putW T1 wX
 let P2:Tx:=putW T1 ⟨tA,t3,false⟩
 have x52:(setTx S4 1 P1).tx 2=some T1:=by simp only [setTx];rw [yU _ _ (by decide)];exact x42
 refine zN1 2 tA t3 (zLO m7 2 ⟨tA,t3,false⟩ (λh=>by rw [x52] at h;cases h) (λt _ h=>absurd h (by unfold zBn;decide)) (λt ks ht _ _ hks h=>by rw [x52] at ht;cases ht;have:=hnoW hks;simp only [List.length_nil] at this;exfalso;omega) λt w8 ht _ _ m8 e8=>?_)
 rw [x52] at ht;cases ht
 have e28:=(e26.trans e7).trans e8
 generalize hS6:setTx (setTx S4 1 P1) 2 (putW T1 ⟨tA,t3,false⟩)=S6 at m8
 have x61:S6.tx 1=some P1:=by rw [← hS6];simp only [setTx];rw [yU _ _ (by decide),Ql]
 have x62:S6.tx 2=some P2:=by rw [← hS6];simp only [setTx];rw [Ql]
 have x6o:∀ q,q≠1->q≠2->S6.tx q=none:=λq h1 h2=>by rw [← hS6];simp only [setTx];rw [yU _ _ h2,yU _ _ h1];exact x4o q h1 h2
 have n6:S6.now=1:=by rw [← hS6];exact n4
 have l6:S6.l=[v1]:=by rw [← hS6];exact l4
 have lo6:S6.low=1:=by rw [← hS6];exact lo4
 clear hS6
 have few:∀ x:Wri,x.Key=tA->Few (putW T1 x)/\zOx (putW T1 x):=λx hx=>by
  have hw:(putW T1 x).wr=upd (λ_=>none) tA x:=by show upd _ x.Key x=_;rw [hx];rfl
  refine ⟨⟨[tA],⟨by simp,λq=>?_⟩,by decide⟩,λq y hy=>?_⟩
  ·rw [hw]
   by_cases hq:q=tA
   ·subst hq;simp [Ql]
   ·simp [yU _ _ hq,hq]
  ·rw [hw] at hy
   by_cases hq:q=tA
   ·subst hq;rw [Ql] at hy;cases hy;exact hx
   ·rw [yU _ _ hq] at hy;cases hy
 have w1:P1.wr=upd (λ_=>none) tA wX:=rfl
 have srt:zFe P1.wr [wX]:=⟨by simp,λz=>by
  rw [w1]
  by_cases hq:z.Key=tA
  ·rw [hq,Ql];simp;exact eq_comm
  ·rw [yU _ _ hq];simp;intro e;subst e;exact hq rfl⟩
 have noc:S6.l.any (conf P1)=false:=by rw [l6];show (decide ((1:Int)<1)&&_||false)=false;rw [show decide ((1:Int)<1)=false from by decide];rfl
 refine zKc m8 1 (λt ht=>by rw [x61] at ht;cases ht;exact few wX rfl) (by rw [n6];decide) (by rw [n6];decide) (λh=>by rw [x61] at h;cases h) (λt ρ' w' ht h=>by rw [x61] at ht;cases ht;rw [noc] at h;cases h) (λt ρ' w' ht _ h=>by rw [x61] at ht;cases ht;have:=h tA;rw [w1,Ql] at this;cases this)
  (λt ys ρ' w' ht _ hS _ h=>by
   rw [x61] at ht;cases ht
   rw [hS.one srt,n6,l6,lo6,show (1:Int)+1=2 from rfl,put1] at h
   exact absurd rfl h) λt ys r ρ9 w9 ht _ hS _ _ m9 e9 hr hq=>?_
 rw [x61] at ht;cases ht
 obtain rfl:=hS.one srt
 rw [n6,l6,lo6,show (1:Int)+1=2 from rfl,put1] at m9
 rw [n6,show (1:Int)+1=2 from rfl]
 have hdm:Doms (delTx (putS S6 (putL [v1] 2 [wX],1,0)) 1).tx [2]:=⟨by simp,λq=>by
  show q∈[2]↔∃ v,del S6.tx 1 q=some v
  by_cases h1:q=1
  ·subst h1;simp [zEU]
  ·rw [zBv _ h1]
   by_cases h2:q=2
   ·subst h2;simp [x62]
   ·simp [x6o q h1 h2,h2]⟩
 have hmem:mk 2 wX∈(zAB (putS S6 (putL [v1] 2 [wX],1,0)) 1).l:=zRA (m:=2) (t:=P2) (zGw.2 (.inr ⟨wX,by simp,rfl⟩)) (zG7 zR8) x62 (by decide) (by show (1:Int)<2;decide) (zNW hdm)
 generalize hS7:zAB (putS S6 (putL [v1] 2 [wX],1,0)) 1=S7 at m9 hmem
 have n7:S7.now=2:=by rw [← hS7,zL6];show S6.now+1=2;rw [n6];rfl
 have x72:S7.tx 2=some P2:=by rw [← hS7,zHg,zBv _ (by decide)];exact x62
 clear hS7
 have con:S7.l.any (conf P2)=true:=List.any_eq_true.2 ⟨_,hmem,by decide⟩
 have e29:=e28.trans e9
 refine zKc m9 2 (λt ht=>by rw [x72] at ht;cases ht;exact few _ rfl) (by rw [n7];decide) (by rw [n7];decide) (λh=>by rw [x72] at h;cases h) (λt ρ10 w10 ht _ m10 e10=>?_) (λt ρ' w' ht h=>by rw [x72] at ht;cases ht;rw [con] at h;cases h) (λt ys ρ' w' ht h=>by rw [x72] at ht;cases ht;rw [con] at h;cases h) (λt ys r ρ' w' ht h=>by rw [x72] at ht;cases ht;rw [con] at h;cases h)
 have hr10:zJV w10 r [wX]:=(zDr.rd hr).keep λq h=>by obtain ⟨_,h1,h2⟩:=hq q h;exact e10.blk h1 h2
 have b10:Bel w w10:=(e29.trans e10).base b02 hρ0
 obtain ⟨vs,mb,g,m10⟩:=m10
 have n10:(zAB S7 2).now=2:=by rw [zL6];exact n7
 refine ⟨λ_=>?_,λh=>absurd rfl h⟩
 unfold zBU
 refine ⟨λ_=>?_,λh=>absurd h (by decide)⟩
 unfold zBO
 refine ⟨λ_=>?_,λh=>absurd h (by decide)⟩
 unfold zBI
 refine ⟨λ_=>?_,λh=>absurd h (by decide)⟩
 unfold zBL
 refine ⟨λ_=>?_,λh=>(nomatch h)⟩
 unfold zBC
 refine ⟨λ_=>?_,λh=>absurd h (by decide)⟩
 unfold zBD
 refine ⟨λ_=>?_,λh=>absurd h (by decide)⟩
 unfold zBH
 refine ⟨λ_=>?_,λh=>absurd h (by decide)⟩
 refine ⟨wX,w10,by kernel_rfl,?_⟩
 have hl2:=Rd.lit (c:=zJ.cells) (n:=3) (λ_=>rfl) [wX] (by decide) w10 ZB
 have b11:Bel w10 (w10.alloc (.cells ([wX].flatMap zJ.cells).toArray ZB)):=Bel.alloc _ _
 refine ⟨⟨some ⟨w10.heap.size,0,none⟩,1,1⟩,(w10.alloc (.cells ([wX].flatMap zJ.cells).toArray ZB)),by kernel_rfl,?_⟩
 generalize (w10.alloc (.cells ([wX].flatMap zJ.cells).toArray ZB))=w11 at hl2 b11 ⊢
 refine zQA (hr10.bel b11) hl2 λc w12 hc b12=>?_
 obtain rfl:c=true:=hc.2 rfl
 unfold zBE
 refine ⟨λ_=>?_,λh=>(nomatch h)⟩
 unfold zBG
 refine ⟨λ_=>?_,λh=>absurd h (by decide)⟩
 unfold zA4
 refine ⟨λ_=>?_,λh=>absurd h (by decide)⟩
 unfold zAy
 refine ⟨λ_=>?_,λh=>absurd h (by decide)⟩
 refine zSE ((m10.bel b11).bel b12) ?_
 unfold zA1
 rw [n10]
 exact H w12 ((b10.trans b11).trans b12)
end Go.Proofs.YtealcoghiaeiiaaGreat.VG
set_option linter.unusedVariables false
namespace Go.Proofs.YtealcoghiaeiiaaGreat.VG
open Go.VB Go.Proofs Go.RowKit
section
variable {κ ν:Type}
theorem zM2 {f:κ->Option ν} {ks js:List κ} (h:Doms f ks) (k:Doms f js):ks.length=js.length:=
 Nat.le_antisymm (zGT h.1 λx hx=>(k.2 x).2 ((h.2 x).1 hx)) (zGT k.1 λx hx=>(h.2 x).2 ((k.2 x).1 hx))
open Classical in
noncomputable def cnt (f:κ->Option ν):Nat:=if h:∃ ks,Doms f ks then h.choose.length else 0
theorem zKa {f:κ->Option ν} {ks:List κ} (h:Doms f ks):cnt f=ks.length:=by
 have:∃ ks,Doms f ks:=⟨ks,h⟩
 unfold cnt;rw [dif_pos this];exact zM2 this.choose_spec h
theorem zLB {f:κ->Option ν} {ks:List κ} (h:Doms f ks) (k:κ) (v:ν):∃ js,Doms (upd f k v) js/\js.length<=ks.length+1/\(f k≠none->js.length=ks.length):=by
 by_cases hk:k∈ks
 ·refine ⟨ks,⟨h.1,λx=>?_⟩,by omega,λ_=>rfl⟩
  by_cases hx:x=k
  ·subst hx;rw [Ql];exact ⟨λ_=>⟨v,rfl⟩,λ_=>hk⟩
  ·rw [yU _ _ hx];exact h.2 x
 ·refine ⟨k::ks,⟨List.nodup_cons.2 ⟨hk,h.1⟩,λx=>?_⟩,by simp,λhn=>absurd ((h.2 k).2 (Option.ne_none_iff_exists'.1 hn)) hk⟩
  by_cases hx:x=k
  ·subst hx;rw [Ql];exact ⟨λ_=>⟨v,rfl⟩,λ_=>by simp⟩
  ·rw [yU _ _ hx,← h.2 x,List.mem_cons];exact ⟨λh1=>h1.resolve_left hx,.inr⟩
theorem zNj {f:κ->Option ν} {ks:List κ} (h:Doms f ks) (k:κ):∃ js,Doms (del f k) js/\js.length<=ks.length:=by
 classical
 refine ⟨ks.filter (λx=>decide (x≠k)),⟨h.1.sublist List.filter_sublist,λx=>?_⟩,List.length_filter_le _ _⟩
 rw [List.mem_filter,h.2 x]
 by_cases hx:x=k
 ·subst hx;rw [zEU];simp
 ·rw [zBv _ hx];simp [hx]
end
section
variable {α:Type} (key:α->ByteArray)
abbrev Rise (ys:List α):Prop:=ys.Pairwise (λa b=>sLt (key a) (key b)=true)
theorem zQW (x:α):∀ ys:List α,Rise key ys->(∀ y∈ys,key y≠key x)->∃ zs,Rise key zs/\∀ z,z∈zs↔z=x∨z∈ys
 |[],_,_=>⟨[x],by simp,by simp⟩
 |y::ys,h,hk=>by
  obtain ⟨h1,h2⟩:=List.pairwise_cons.1 h
  by_cases c:sLt (key x) (key y)=true
  ·refine ⟨x::y::ys,List.pairwise_cons.2 ⟨λz hz=>?_,h⟩,by simp⟩
   rcases List.mem_cons.1 hz with e|e
   ·rw [e];exact c
   ·exact zHs c (h1 z e)
  ·have hyx:sLt (key y) (key x)=true:=zEe c (λe=>hk y (by simp) e.symm)
   obtain ⟨zs,h3,h4⟩:=zQW x ys h2 (λz hz=>hk z (by simp [hz]))
   refine ⟨y::zs,List.pairwise_cons.2 ⟨λz hz=>?_,h3⟩,λz=>?_⟩
   ·rcases (h4 z).1 hz with e|e
    ·rw [e];exact hyx
    ·exact h1 z e
   ·rw [List.mem_cons,List.mem_cons,h4]
    constructor
    ·rintro (e|e|e)
     ·exact .inr (.inl e)
     ·exact .inl e
     ·exact .inr (.inr e)
    ·rintro (e|e|e)
     ·exact .inr (.inl e)
     ·exact .inl e
     ·exact .inr (.inr e)
theorem zOY:∀ xs:List α,xs.Pairwise (λa b=>key a≠key b)->∃ ys,Rise key ys/\∀ z,z∈ys↔z∈xs
 |[],_=>⟨[],by simp,by simp⟩
 |x::xs,h=>by
  obtain ⟨h1,h2⟩:=List.pairwise_cons.1 h
  obtain ⟨ys,h3,h4⟩:=zOY xs h2
  obtain ⟨zs,h5,h6⟩:=zQW key x ys h3 (λy hy e=>h1 y ((h4 y).1 hy) e.symm)
  exact ⟨zs,h5,λz=>by rw [h6,h4,List.mem_cons]⟩
theorem zQf {xs ys:List α} (h1:Rise key xs) (k1:Rise key ys) (hm:∀ x,x∈xs↔x∈ys):xs=ys:=by
 induction xs generalizing ys with
 |nil=>cases ys with
  |nil=>rfl
  |cons b ys=>exact absurd ((hm b).2 (by simp)) (by simp)
 |cons a xs ih=>
  cases ys with
  |nil=>exact absurd ((hm a).1 (by simp)) (by simp)
  |cons b ys=>
   obtain ⟨h2,h3⟩:=List.pairwise_cons.1 h1
   obtain ⟨k2,k3⟩:=List.pairwise_cons.1 k1
   have hab:a=b:=by
    rcases List.mem_cons.1 ((hm a).1 (by simp)) with e|e
    ·exact e
    ·rcases List.mem_cons.1 ((hm b).2 (by simp)) with e'|e'
     ·exact e'.symm
     ·exact absurd (h2 b e') (zIB (k2 a e))
   subst hab
   rw [ih h3 k3 (λx=>?_)]
   constructor
   ·intro hx
    rcases List.mem_cons.1 ((hm x).1 (by simp [hx])) with e|e
    ·subst e;exact absurd (h2 x hx) (Z6 _)
    ·exact e
   ·intro hx
    rcases List.mem_cons.1 ((hm x).2 (by simp [hx])) with e|e
    ·subst e;exact absurd (k2 x hx) (Z6 _)
    ·exact e
end
open Classical in
noncomputable def zHA (f:ByteArray->Option Wri):List Wri:=if h:∃ ys,zFe f ys then h.choose else []
theorem zKT {f:ByteArray->Option Wri} {ys:List Wri} (h:zFe f ys):zHA f=ys:=by
 have:∃ ys,zFe f ys:=⟨ys,h⟩
 unfold zHA;rw [dif_pos this];exact this.choose_spec.one h
theorem zNR {f:ByteArray->Option Wri} {ks:List ByteArray} (hd:Doms f ks) (hk:∀ k x,f k=some x->x.Key=k):zFe f (zHA f)/\(zHA f).length=ks.length:=by
 have hnd:(ks.filterMap f).Pairwise (λx y=>x.Key≠y.Key):=by
  rw [List.pairwise_filterMap]
  refine hd.1.imp λ{a b} hab x hx y hy e=>hab ?_
  rw [← hk a x hx,← hk b y hy,e]
 obtain ⟨ys,h1,h2⟩:=zOY (λx:Wri=>x.Key) _ hnd
 have hS:zFe f ys:=⟨h1,λx=>by
  rw [h2,List.mem_filterMap]
  constructor
  ·rintro ⟨k,_,h⟩
   rw [hk k x h];exact h
  ·exact λh=>⟨x.Key,(hd.2 _).2 ⟨x,h⟩,h⟩⟩
 rw [zKT hS]
 refine ⟨hS,?_⟩
 rw [← zHY f ks λk hk'=>(hd.2 k).1 hk']
 refine Nat.le_antisymm (zGT ?_ λx hx=>(h2 x).1 hx) (zGT ?_ λx hx=>(h2 x).2 hx)
 ·exact h1.imp λ{a b} h e=>by subst e;exact Z6 _ h
 ·exact hnd.imp λ{a b} h e=>h (by rw [e])
theorem zFe.keys {f:ByteArray->Option Wri} {ys:List Wri} (h:zFe f ys):(zDw ys).Nodup:=by
 unfold zDw
 rw [List.Nodup,List.pairwise_map]
 exact h.1.imp λ{a b} h e=>by rw [e] at h;exact Z6 _ h
def zAK (f:ByteArray->Option ByteArray) (ys:List Pai):Prop:=Rise (λp:Pai=>p.Key) ys/\∀ p:Pai,p∈ys↔f p.Key=some p.Val
theorem zAK.one {f:ByteArray->Option ByteArray} {xs ys:List Pai} (h:zAK f xs) (k:zAK f ys):xs=ys:=zQf _ h.1 k.1 λx=>by rw [h.2,k.2]
open Classical in
noncomputable def zHq (f:ByteArray->Option ByteArray):List Pai:=if h:∃ ys,zAK f ys then h.choose else []
theorem zJc {f:ByteArray->Option ByteArray} {ys:List Pai} (h:zAK f ys):zHq f=ys:=by
 have:∃ ys,zAK f ys:=⟨ys,h⟩
 unfold zHq;rw [dif_pos this];exact this.choose_spec.one h
def val (l:List Ver) (key:ByteArray) (T:Int):Option ByteArray:=match sees l key T with
 |none=>none
 |some x=>if x.Gone=true then none else some x.Val
theorem zQd (l:List Ver) (key:ByteArray) (T:Int):val l key T=if (outV (sees l key T)).2=true then some (outV (sees l key T)).1 else none:=by
 unfold val
 cases h:sees l key T with
 |none=>rfl
 |some x=>cases hg:x.Gone<;>simp [outV,hg]
theorem zRR {l:List Ver} {low:Int} (h:zCt l low) (key:ByteArray) (T:Int):outV (sees l key T)=((val l key T).getD noB,(val l key T).isSome):=by
 unfold val
 cases hs:sees l key T with
 |none=>rfl
 |some x=>
  have hm:=h.made (zHi hs).1
  cases hg:x.Gone
  ·simp [outV,hg]
  ·simp [outV,hg,hm.gone hg]
theorem zRL {l:List Ver} {low0:Int} (hg:zCt l low0) {low T:Int} (h:low<=T) (key:ByteArray):val (swp low l) key T=val l key T:=by rw [zQd,zQd,zQm hg h]
theorem zRd {l:List Ver} {low:Int} {m:List Wri} {t T:Int} (h:pwhy l low m t=0) (ha:T<t) (key:ByteArray):val (putL l t m) key T=val l key T:=by unfold val;rw [zP1 h ha]
theorem zP8 {l:List Ver} {low n T:Int} (hg:zCt l low) (h:∀ x∈l,x.At<=n) (hT:n<=T) (key:ByteArray):val l key T=val l key n:=by
 unfold val
 rw [zHt hg.sorted hg.sorted (s:=T) (t:=n) λx _=>⟨λ⟨h1,_⟩=>⟨h1,h x h1⟩,λ⟨h1,h2⟩=>⟨h1,by omega⟩⟩]
def ovl (wr:ByteArray->Option Wri) (f:ByteArray->Option ByteArray) (key:ByteArray):Option ByteArray:=match wr key with
 |some x=>if x.Gone=true then none else some x.Val
 |none=>f key
theorem zNl {l:List Ver} {low n:Int} {m:List Wri} {wr:ByteArray->Option Wri} (h:pwhy l low m (n+1)=0) (hn:∀ x∈l,x.At<=n) (hS:zFe wr m) (hk:∀ k x,wr k=some x->x.Key=k) (key:ByteArray):
  val (putL l (n+1) m) key (n+1)=ovl wr (λk=>val l k n) key:=by
 have hg:=(zFa.1 h).1
 unfold ovl
 cases hw:wr key with
 |some x=>
  have hxk:=hk key x hw
  have hx:x∈m:=(hS.2 x).2 (by rw [hxk];exact hw)
  have:=zRB h (Int.le_refl _) hx
  rw [hxk] at this
  simp only [val,this,mk]
  cases x.Gone<;>simp
 |none=>
  have h1:sees (putL l (n+1) m) key (n+1)=sees l key (n+1):=zPg h (Int.le_refl _) λy hy e=>by
   have:=(hS.2 y).1 hy;rw [e,hw] at this;cases this
  simp only
  rw [← zP8 hg hn (show n<=n+1 by omega) key]
  unfold val;rw [h1]
structure TxOk (t:Tx):Prop where
 few:Few t
 keyed:zOx t
 short:∀ k x,t.wr k=some x->¬ zBn x
 bare:∀ k x,t.wr k=some x->x.Gone=true->x.Val=noB
 rds:t.reads.length<=256
structure Inv (s:St):Prop where
 good:zCt s.l s.low
 lo:1<=s.low
 lonow:s.low<=s.now
 past:∀ x∈s.l,x.At<=s.now
 giv:0<=s.given
 dom:∃ ks,Doms s.tx ks/\ks.length<=16
 num:∀ n t,s.tx n=some t->1<=n/\n<=s.given
 tim:∀ n t,s.tx n=some t->s.low<=t.began/\t.began<=s.now
 txok:∀ n t,s.tx n=some t->TxOk t
theorem Inv.free {s:St} (h:Inv s):s.tx (s.given+1)=none:=by
 cases ht:s.tx (s.given+1) with
 |none=>rfl
 |some t=>have:=h.num _ t ht;omega
abbrev maxT:Int:=2305843009213693952
theorem zQo (s:St):TxOk (zGa s):=⟨⟨[],⟨List.nodup_nil,λk=>by simp [zGa]⟩,by simp⟩,λk x h=>(nomatch h),λk x h=>(nomatch h),λk x h=>(nomatch h),by simp [zGa]⟩
theorem zL5 {s:St} (h:Inv s) (hc:cnt s.tx<16):Inv (zFg s) where
 good:=h.good
 lo:=h.lo
 lonow:=h.lonow
 past:=h.past
 giv:=by show 0<=s.given+1;have:=h.giv;omega
 dom:=by
  obtain ⟨ks,hd,hl⟩:=h.dom
  rw [zKa hd] at hc
  obtain ⟨js,h1,h2,_⟩:=zLB hd (s.given+1) (zGa s)
  exact ⟨js,h1,by omega⟩
 num n t ht:=by
  show 1<=n/\n<=s.given+1
  have hg:=h.giv
  by_cases hn:n=s.given+1
  ·omega
  ·have:=h.num n t (by rw [← yU s.tx (zGa s) hn];exact ht);omega
 tim n t ht:=by
  show s.low<=t.began/\t.began<=s.now
  by_cases hn:n=s.given+1
  ·subst hn
   have h1:upd s.tx (s.given+1) (zGa s) (s.given+1)=some t:=ht
   rw [Ql] at h1;cases h1
   exact ⟨h.lonow,Int.le_refl _⟩
  ·exact h.tim n t (by rw [← yU s.tx (zGa s) hn];exact ht)
 txok n t ht:=by
  by_cases hn:n=s.given+1
  ·subst hn
   have h1:upd s.tx (s.given+1) (zGa s) (s.given+1)=some t:=ht
   rw [Ql] at h1;cases h1
   exact zQo s
  ·exact h.txok n t (by rw [← yU s.tx (zGa s) hn];exact ht)
theorem zKY {s:St} (h:Inv s) {n:Int} {t t':Tx} (ht:s.tx n=some t) (hb:t'.began=t.began) (hk:TxOk t'):Inv (setTx s n t') where
 good:=h.good
 lo:=h.lo
 lonow:=h.lonow
 past:=h.past
 giv:=h.giv
 dom:=by
  obtain ⟨ks,hd,hl⟩:=h.dom
  obtain ⟨js,h1,_,h2⟩:=zLB hd n t'
  exact ⟨js,h1,by rw [h2 (by rw [ht];simp)];exact hl⟩
 num m u hu:=by
  show 1<=m/\m<=s.given
  by_cases hm:m=n
  ·subst hm;exact h.num _ t ht
  ·exact h.num m u (by rw [← yU s.tx t' hm];exact hu)
 tim m u hu:=by
  show s.low<=u.began/\u.began<=s.now
  by_cases hm:m=n
  ·subst hm
   have h1:upd s.tx m t' m=some u:=hu
   rw [Ql] at h1;cases h1
   rw [hb];exact h.tim _ t ht
  ·exact h.tim m u (by rw [← yU s.tx t' hm];exact hu)
 txok m u hu:=by
  by_cases hm:m=n
  ·subst hm
   have h1:upd s.tx m t' m=some u:=hu
   rw [Ql] at h1;cases h1;exact hk
  ·exact h.txok m u (by rw [← yU s.tx t' hm];exact hu)
theorem zPB {t:Tx} (h:TxOk t) (hl:t.reads.length<256) (x:Spn):TxOk (addR t x):=⟨h.few,h.keyed,h.short,h.bare,by simp [addR];omega⟩
theorem zRX {t:Tx} (h:TxOk t) {x:Wri} (hx:¬ zBn x) (hb:x.Gone=true->x.Val=noB) (hl:t.wr x.Key=none->cnt t.wr<256):TxOk (putW t x) where
 few:=by
  obtain ⟨ks,hd,hk⟩:=h.few
  obtain ⟨js,h1,h2,h3⟩:=zLB hd x.Key x
  refine ⟨js,h1,?_⟩
  by_cases hn:t.wr x.Key=none
  ·have:=hl hn;rw [zKa hd] at this;omega
  ·rw [h3 hn];exact hk
 keyed k y hy:=by
  have h1:upd t.wr x.Key x k=some y:=hy
  by_cases hk:k=x.Key
  ·subst hk;rw [Ql] at h1;cases h1;rfl
  ·rw [yU _ _ hk] at h1;exact h.keyed k y h1
 short k y hy:=by
  have h1:upd t.wr x.Key x k=some y:=hy
  by_cases hk:k=x.Key
  ·subst hk;rw [Ql] at h1;cases h1;exact hx
  ·rw [yU _ _ hk] at h1;exact h.short k y h1
 bare k y hy:=by
  have h1:upd t.wr x.Key x k=some y:=hy
  by_cases hk:k=x.Key
  ·subst hk;rw [Ql] at h1;cases h1;exact hb
  ·rw [yU _ _ hk] at h1;exact h.bare k y h1
 rds:=h.rds
theorem zOr {s:St} (h:Inv s) (hn:s.now<=maxT) (n:Int):∃ lo,zHM (delTx s n) lo/\s.low<=lo/\lo<=s.now/\zAB s n={delTx s n with l:=swp lo s.l,low:=lo}:=by
 obtain ⟨ks,hd,_⟩:=h.dom
 obtain ⟨js,hj,_⟩:=zNj hd n
 obtain ⟨lo,hlo⟩:=zNW (s:=delTx s n) hj
 have h1:lo<=s.now:=hlo.now
 have h2:s.low<=lo:=by
  rcases hlo.hit with e|⟨m,t,ht,e⟩
  ·rw [e];exact h.lonow
  ·have hm:m≠n:=λe'=>by subst e';simp [delTx,zEU] at ht
   have ht':s.tx m=some t:=by simpa [delTx,zBv _ hm] using ht
   rw [e];exact (h.tim m t ht').1
 have hv:zDh (delTx s n).l (delTx s n).low lo=(swp lo s.l,lo,0):=zPG h.good h2 (by unfold maxT at hn;omega)
 refine ⟨lo,hlo,h2,h1,?_⟩
 unfold zAB zKH
 rw [← hlo.eq,hv]
 rfl
theorem zRG {s:St} {n m:Int} {t:Tx} (h:(zAB s n).tx m=some t):m≠n/\s.tx m=some t:=by
 rw [zHg] at h
 have hm:m≠n:=λe=>by subst e;rw [zEU] at h;cases h
 exact ⟨hm,by rw [zBv _ hm] at h;exact h⟩
theorem zHj {s:St} (h:Inv s) (hn:s.now<=maxT) (n:Int):Inv (zAB s n):=by
 obtain ⟨lo,hlo,h1,h2,he⟩:=zOr h hn n
 have htx:∀ m t,(zAB s n).tx m=some t->s.tx m=some t:=λm t ht=>(zRG ht).2
 have h4:=h.lo
 refine ⟨?_,?_,?_,?_,?_,?_,?_,?_,λm t ht=>h.txok m t (htx m t ht)⟩
 ·rw [he];exact zQY h.good (by unfold maxT at hn;omega)
 ·rw [he];show 1<=lo;omega
 ·rw [he];exact h2
 ·rw [he];exact λx hx=>h.past x ((zH2 lo s.l).subset hx)
 ·rw [he];exact h.giv
 ·obtain ⟨ks,hd,hl⟩:=h.dom
  obtain ⟨js,hj,hl'⟩:=zNj hd n
  rw [he];exact ⟨js,hj,by omega⟩
 ·intro m t ht
  have:=h.num m t (htx m t ht)
  rw [he];exact this
 ·intro m t ht
  have h3:=h.tim m t (htx m t ht)
  rw [he] at ht ⊢
  exact ⟨hlo.all m t ht,h3.2⟩
theorem zHp {s:St} (h:Inv s) (hn:s.now<=maxT) (n:Int) {T:Int} (hT:(zAB s n).low<=T) (key:ByteArray):val (zAB s n).l key T=val s.l key T:=by
 obtain ⟨lo,hlo,h1,h2,he⟩:=zOr h hn n
 rw [he] at hT ⊢
 exact zRL h.good hT key
theorem zMk {s:St} (h:Inv s) {ys:List Wri} (hp:pwhy s.l s.low ys (s.now+1)=0):Inv (putS s (putL s.l (s.now+1) ys,s.low,0)) where
 good:=zQ2 hp
 lo:=h.lo
 lonow:=by show s.low<=s.now+1;have:=h.lonow;omega
 past x hx:=by
  show x.At<=s.now+1
  rcases zGw.1 hx with h1|⟨w,_,rfl⟩
  ·have:=h.past x h1;omega
  ·exact Int.le_refl _
 giv:=h.giv
 dom:=h.dom
 num:=h.num
 tim n t ht:=by
  show s.low<=t.began/\t.began<=s.now+1
  have:=h.tim n t ht;omega
 txok:=h.txok
theorem Inv.sorts {s:St} (h:Inv s) {n:Int} {t:Tx} (ht:s.tx n=some t):zFe t.wr (zHA t.wr):=by
 have hk:=h.txok n t ht
 obtain ⟨ks,hd,hl⟩:=hk.few
 exact (zNR hd hk.keyed).1
abbrev ans0:Ans:=⟨0,0,noB,false,[],[],0⟩
abbrev errA (e:Int):Ans:={ans0 with why:=e}
noncomputable def onTx (s:St) (n:Int) (f:Tx->St × Ans):St × Ans:=match s.tx n with
 |none=>(s,errA 11)
 |some t=>f t
noncomputable def zCR (s:St):St × Ans:=if 16<=cnt s.tx then (s,errA 3) else (zFg s,{ans0 with tx:=s.given+1})
noncomputable def getT (s:St) (n:Int) (key:ByteArray) (t:Tx):St × Ans:=
 if 256<key.size then (s,errA 4) else if 256<=t.reads.length then (s,errA 3)
 else (setTx s n (addR t (zHP key)),{ans0 with val:=(tget s t key).1,is:=(tget s t key).2.1,why:=(tget s t key).2.2})
noncomputable def getD (s:St) (n:Int) (key:ByteArray):St × Ans:=onTx s n (getT s n key)
abbrev Y3 (fr to:ByteArray):Spn:=⟨fr,to,false⟩
noncomputable def zHH (s:St) (t:Tx) (key:ByteArray):Option ByteArray:=ovl t.wr (λk=>val s.l k t.began) key
def cut (x:Spn) (f:ByteArray->Option ByteArray) (key:ByteArray):Option ByteArray:=if Qr x key=true then f key else none
noncomputable def zL4 (s:St) (n:Int) (fr to:ByteArray) (t:Tx):St × Ans:=
 if 256<=t.reads.length then (s,errA 3)
 else (setTx s n (addR t (Y3 fr to)),{ans0 with pairs:=zHq (cut (Y3 fr to) (zHH s t))})
noncomputable def zGm (s:St) (n:Int) (fr to:ByteArray):St × Ans:=onTx s n (zL4 s n fr to)
open Classical in
noncomputable def zKU (s:St) (n:Int) (x:Wri) (t:Tx):St × Ans:=
 if zBn x then (s,errA 4) else if t.wr x.Key=none/\256<=cnt t.wr then (s,errA 3) else (setTx s n (putW t x),ans0)
noncomputable def zCs (s:St) (n:Int) (x:Wri):St × Ans:=onTx s n (zKU s n x)
open Classical in
noncomputable def zHv (s:St) (n:Int) (t:Tx):St × Ans:=
 if s.l.any (conf t)=true then (zAB s n,errA 10)
 else if (∀ k,t.wr k=none) then (zAB s n,{ans0 with time:=s.now})
 else if (vput s.l s.low (zHA t.wr) (s.now+1)).2.2≠0 then (zAB s n,errA (vput s.l s.low (zHA t.wr) (s.now+1)).2.2)
 else (zAB (putS s (vput s.l s.low (zHA t.wr) (s.now+1))) n,{ans0 with done:=zHA t.wr,time:=s.now+1})
noncomputable def zCf (s:St) (n:Int):St × Ans:=onTx s n (zHv s n)
noncomputable def zHT (s:St) (n:Int):St × Ans:=onTx s n λ_=>(zAB s n,ans0)
noncomputable def doS (s:St) (x:za):St × Ans:=
 if x.Kind=1 then zCR s else if x.Kind=2 then getD s x.Tx x.Key else if x.Kind=3 then zGm s x.Tx x.Key x.To
 else if x.Kind=4 then zCs s x.Tx ⟨x.Key,x.Val,false⟩ else if x.Kind=5 then zCs s x.Tx ⟨x.Key,noB,true⟩
 else if x.Kind=6 then zCf s x.Tx else if x.Kind=7 then zHT s x.Tx else (s,errA 15)
inductive Eff (s:St) (x:za):St->Ans->Prop
 |no (e:Int):e≠0->Eff s x s (errA e)
 |beg:x.Kind=1->cnt s.tx<16->Eff s x (zFg s) {ans0 with tx:=s.given+1}
 |get (t:Tx):x.Kind=2->s.tx x.Tx=some t->x.Key.size<=256->t.reads.length<256->Eff s x (setTx s x.Tx (addR t (zHP x.Key))) {ans0 with val:=(zHH s t x.Key).getD noB,is:=(zHH s t x.Key).isSome}
 |scan (t:Tx):x.Kind=3->s.tx x.Tx=some t->t.reads.length<256->Eff s x (setTx s x.Tx (addR t (Y3 x.Key x.To))) {ans0 with pairs:=zHq (cut (Y3 x.Key x.To) (zHH s t))}
 |write (t:Tx) (y:Wri):(x.Kind=4/\y=⟨x.Key,x.Val,false⟩∨x.Kind=5/\y=⟨x.Key,noB,true⟩)->s.tx x.Tx=some t->¬ zBn y->(t.wr y.Key=none->cnt t.wr<256)->Eff s x (setTx s x.Tx (putW t y)) ans0
 |abort (t:Tx):x.Kind=7->s.tx x.Tx=some t->Eff s x (zAB s x.Tx) ans0
 |fail (t:Tx) (e:Int):x.Kind=6->s.tx x.Tx=some t->e≠0->Eff s x (zAB s x.Tx) (errA e)
 |empty (t:Tx):x.Kind=6->s.tx x.Tx=some t->s.l.any (conf t)=false->(∀ k,t.wr k=none)->Eff s x (zAB s x.Tx) {ans0 with time:=s.now}
 |comm (t:Tx) (ys:List Wri):x.Kind=6->s.tx x.Tx=some t->s.l.any (conf t)=false->zFe t.wr ys->(∃ k,t.wr k≠none)->pwhy s.l s.low ys (s.now+1)=0->Eff s x (zAB (putS s (putL s.l (s.now+1) ys,s.low,0)) x.Tx) {ans0 with done:=ys,time:=s.now+1}
theorem zPO {s:St} (h:Inv s) {n:Int} {t:Tx} (ht:s.tx n=some t) (key:ByteArray):tget s t key=((zHH s t key).getD noB,(zHH s t key).isSome,0):=by
 unfold tget zHH ovl
 cases hw:t.wr key with
 |some x=>
  simp only
  cases hg:x.Gone
  ·simp
  ·simp [(h.txok n t ht).bare key x hw hg]
 |none=>
  simp only
  have h0:vask s.l s.low t.began=0:=zHm.2 ⟨h.good,(h.tim n t ht).1⟩
  unfold vget
  rw [if_neg (by simp [h0]),zRR h.good]
theorem zLM {s:St} {x:za} {f:Tx->St × Ans} (h:∀ t,s.tx x.Tx=some t->Eff s x (f t).1 (f t).2):Eff s x (onTx s x.Tx f).1 (onTx s x.Tx f).2:=by
 unfold onTx
 cases ht:s.tx x.Tx with
 |none=>exact .no 11 (by decide)
 |some t=>exact h t ht
theorem zMD {s:St} {x:za} {y:Wri} (hk:x.Kind=4/\y=⟨x.Key,x.Val,false⟩∨x.Kind=5/\y=⟨x.Key,noB,true⟩):Eff s x (zCs s x.Tx y).1 (zCs s x.Tx y).2:=by
 refine zLM λt ht=>?_
 unfold zKU
 split
 ·exact .no 4 (by decide)
 ·rename_i h1
  split
  ·exact .no 3 (by decide)
  ·rename_i h2
   exact .write t y hk ht h1 λh3=>Nat.not_le.1 λh4=>h2 ⟨h3,h4⟩
theorem zRW {s:St} (h:Inv s) (hn:s.now+1<=maxT) (x:za):Eff s x (doS s x).1 (doS s x).2:=by
 unfold doS
 split
 ·rename_i k
  unfold zCR
  split
  ·exact .no 3 (by decide)
  ·exact .beg k (by omega)
 split
 ·rename_i k
  refine zLM λt ht=>?_
  unfold getT
  split
  ·exact .no 4 (by decide)
  ·split
   ·exact .no 3 (by decide)
   ·rw [zPO h ht]
    exact .get t k ht (by omega) (by omega)
 split
 ·rename_i k
  refine zLM λt ht=>?_
  unfold zL4
  split
  ·exact .no 3 (by decide)
  ·exact .scan t k ht (by omega)
 split
 ·rename_i k;exact zMD (.inl ⟨k,rfl⟩)
 split
 ·rename_i k;exact zMD (.inr ⟨k,rfl⟩)
 split
 ·rename_i k
  refine zLM λt ht=>?_
  have hS:=h.sorts ht
  unfold zHv
  split
  ·exact .fail t 10 k ht (by decide)
  ·rename_i hc
   have hc:=Bool.eq_false_iff.2 hc
   split
   ·rename_i he;exact .empty t k ht hc he
   ·rename_i he
    split
    ·rename_i h3;exact .fail t _ k ht h3
    ·rename_i h3
     obtain ⟨h4,h5⟩:=zRT (Classical.not_not.1 h3)
     rw [h5]
     exact .comm t _ k ht hc hS (Classical.not_forall.1 he) h4
 split
 ·rename_i k;exact zLM λt ht=>.abort t k ht
 ·exact .no 15 (by decide)
theorem zMX {s s':St} {a:Ans} {x:za} (h:Inv s) (hn:s.now+1<=maxT) (e:Eff s x s' a):Inv s':=by
 cases e with
 |no e _=>exact h
 |beg _ hc=>exact zL5 h hc
 |get t _ ht _ hl=>exact zKY h ht rfl (zPB (h.txok _ t ht) hl _)
 |scan t _ ht hl=>exact zKY h ht rfl (zPB (h.txok _ t ht) hl _)
 |write t y hk ht hy hl=>exact zKY h ht rfl (zRX (h.txok _ t ht) hy (λhg=>by rcases hk with ⟨_,e⟩|⟨_,e⟩<;>rw [e] at hg ⊢;cases hg) hl)
 |abort t _ ht=>exact zHj h (by omega) _
 |fail t e _ ht _=>exact zHj h (by omega) _
 |empty t _ ht _ _=>exact zHj h (by omega) _
 |comm t ys _ ht _ _ _ hp=>exact zHj (zMk h hp) hn _
theorem zMV {s s':St} {a:Ans} {x:za} (e:Eff s x s' a):s.now<=s'.now/\s'.now<=s.now+1/\s.given<=s'.given/\s'.given<=s.given+1:=by
 have ho:∀ (u:St) n,(zAB u n).now=u.now/\(zAB u n).given=u.given:=λu n=>by unfold zAB zKH;split<;>exact ⟨rfl,rfl⟩
 cases e with
 |no e _=>omega
 |beg _ hc=>show s.now<=s.now/\s.now<=s.now+1/\s.given<=s.given+1/\s.given+1<=s.given+1;omega
 |get t _ ht _ hl=>show s.now<=s.now/\s.now<=s.now+1/\s.given<=s.given/\s.given<=s.given+1;omega
 |scan t _ ht hl=>show s.now<=s.now/\s.now<=s.now+1/\s.given<=s.given/\s.given<=s.given+1;omega
 |write t y hk ht hy hl=>show s.now<=s.now/\s.now<=s.now+1/\s.given<=s.given/\s.given<=s.given+1;omega
 |abort t _ ht=>rw [(ho _ _).1,(ho _ _).2];omega
 |fail t e _ ht _=>rw [(ho _ _).1,(ho _ _).2];omega
 |empty t _ ht _ _=>rw [(ho _ _).1,(ho _ _).2];omega
 |comm t ys _ ht _ _ _ hp=>rw [(ho _ _).1,(ho _ _).2];show s.now<=s.now+1/\s.now+1<=s.now+1/\s.given<=s.given/\s.given<=s.given+1;omega
theorem zRE {s s':St} {a:Ans} {x:za} (h:Inv s) (hn:s.now+1<=maxT) (e:Eff s x s' a) {T:Int} (hT:T<=s.now) (hlow:s'.low<=T) (key:ByteArray):val s'.l key T=val s.l key T:=by
 cases e with
 |no e _=>rfl
 |beg _ hc=>rfl
 |get t _ ht _ hl=>rfl
 |scan t _ ht hl=>rfl
 |write t y hk ht hy hl=>rfl
 |abort t _ ht=>exact zHp h (by omega) _ hlow key
 |fail t e _ ht _=>exact zHp h (by omega) _ hlow key
 |empty t _ ht _ _=>exact zHp h (by omega) _ hlow key
 |comm t ys _ ht _ _ _ hp=>rw [zHp (zMk h hp) hn _ hlow key];exact zRd hp (by omega) key
theorem zPR {s s':St} {a:Ans} {x:za} (h:Inv s) (e:Eff s x s' a) {n:Int} {t:Tx} (ht:s.tx n=some t) (hx:x.Tx≠n∨x.Kind=1):s'.tx n=some t:=by
 have hover:∀ u:St,x.Kind≠1->u.tx n=some t->(zAB u x.Tx).tx n=some t:=λu hk hu=>by
  rw [zHg,zBv _ (Ne.symm (hx.resolve_right hk))];exact hu
 have hset:∀ t',x.Kind≠1->(setTx s x.Tx t').tx n=some t:=λt' hk=>by
  show upd s.tx x.Tx t' n=_
  rw [yU _ _ (Ne.symm (hx.resolve_right hk))];exact ht
 cases e with
 |no e _=>exact ht
 |beg _ hc=>
  show upd s.tx (s.given+1) _ n=_
  rw [yU _ _ λe=>by have:=(h.num n t ht).2;omega];exact ht
 |get t _ _ _ hl=>exact hset _ (by omega)
 |scan t _ _ hl=>exact hset _ (by omega)
 |write t y hk _ hy hl=>exact hset _ (by rcases hk with ⟨h,_⟩|⟨h,_⟩<;>omega)
 |abort t _ _=>exact hover _ (by omega) ht
 |fail t e _ _ _=>exact hover _ (by omega) ht
 |empty t _ _ _ _=>exact hover _ (by omega) ht
 |comm t ys _ _ _ _ _ hp=>exact hover _ (by omega) ht
end Go.Proofs.YtealcoghiaeiiaaGreat.VG
set_option linter.unusedVariables false
namespace Go.Proofs.YtealcoghiaeiiaaGreat.VG
open Go.VB Go.Proofs Go.RowKit
def zCd (w:Wri) (o:List Pai × Bool) (p:Pai):List Pai × Bool:=
 ((if sLt p.Key w.Key=false/\o.2=false then o.1++[⟨w.Key,w.Val⟩] else o.1)++(if p.Key=w.Key then [] else [p]),o.2||!sLt p.Key w.Key)
def end8 (w:Wri) (o:List Pai × Bool):List Pai:=if o.2=true then o.1 else o.1++[⟨w.Key,w.Val⟩]
def zIv (l:List Pai) (w:Wri):List Pai:=end8 w (l.foldl (zCd w) ([],w.Gone))
def allL (l:List Pai) (ws:List Wri):List Pai:=ws.foldl zIv l
def zJX (f:ByteArray->Option ByteArray) (w:Wri) (key:ByteArray):Option ByteArray:=if key=w.Key then (if w.Gone=true then none else some w.Val) else f key
def allF (f:ByteArray->Option ByteArray) (ws:List Wri):ByteArray->Option ByteArray:=ws.foldl zJX f
def zID (w:Wri) (p:Pai):Bool:=decide (p.Key≠w.Key)
theorem zJd (w:Wri):∀ (l out:List Pai),l.foldl (zCd w) (out,true)=(out++l.filter (zID w),true)
 |[],out=>by simp
 |p::l,out=>by
  rw [List.foldl_cons]
  have:zCd w (out,true) p=(out++(if p.Key=w.Key then [] else [p]),true):=by simp [zCd]
  rw [this,zJd w l]
  by_cases h:p.Key=w.Key
  ·simp [zID,h]
  ·simp [zID,h]
theorem zKl (w:Wri):∀ (l out:List Pai),Rise (λp:Pai=>p.Key) l->∃ a b,l=a++b/\(∀ p∈a,sLt p.Key w.Key=true)/\(∀ p∈b,sLt p.Key w.Key=false)/\
  l.foldl (zCd w) (out,false)=(if b=[] then (out++a,false) else (out++a++[⟨w.Key,w.Val⟩]++b.filter (zID w),true))
 |[],out,_=>⟨[],[],by simp⟩
 |p::l,out,h=>by
  obtain ⟨h1,h2⟩:=List.pairwise_cons.1 h
  rw [List.foldl_cons]
  by_cases c:sLt p.Key w.Key=true
  ·have hne:p.Key≠w.Key:=λe=>by rw [e] at c;exact Z6 _ c
   have:zCd w (out,false) p=(out++[p],false):=by simp [zCd,c,hne]
   rw [this]
   obtain ⟨a,b,e,ha,hb,hf⟩:=zKl w l (out++[p]) h2
   refine ⟨p::a,b,by rw [e];rfl,λq hq=>?_,hb,?_⟩
   ·rcases List.mem_cons.1 hq with e|e
    ·rw [e];exact c
    ·exact ha q e
   ·rw [hf];simp
  ·have c':sLt p.Key w.Key=false:=Bool.eq_false_iff.2 c
   have:zCd w (out,false) p=(out++[⟨w.Key,w.Val⟩]++(if p.Key=w.Key then [] else [p]),true):=by simp [zCd,c']
   rw [this,zJd]
   refine ⟨[],p::l,rfl,by simp,λq hq=>?_,?_⟩
   ·rcases List.mem_cons.1 hq with e|e
    ·rw [e];exact c'
    ·cases hq':sLt q.Key w.Key with
     |false=>rfl
     |true=>exact absurd (zHs (h1 q e) hq') c
   ·by_cases h:p.Key=w.Key
    ·simp [zID,h]
    ·simp [zID,h]
theorem zJn {f:ByteArray->Option ByteArray} {l:List Pai} (h:zAK f l) (w:Wri):zAK (zJX f w) (zIv l w):=by
 obtain ⟨hr,hm⟩:=h
 unfold zIv
 cases hg:w.Gone with
 |true=>
  rw [zJd]
  simp only [end8,List.nil_append,if_true]
  refine ⟨hr.sublist List.filter_sublist,λp=>?_⟩
  rw [List.mem_filter,hm]
  unfold zJX zID
  by_cases hk:p.Key=w.Key
  ·simp [hk,hg]
  ·simp [hk]
 |false=>
  obtain ⟨a,b,e,ha,hb,hf⟩:=zKl w l [] hr
  rw [hf]
  have hmem:∀ p,p∈end8 w (if b=[] then ([]++a,false) else ([]++a++[⟨w.Key,w.Val⟩]++b.filter (zID w),true))↔p∈a∨p=⟨w.Key,w.Val⟩∨(p∈b/\p.Key≠w.Key):=λp=>by
   split
   ·rename_i hb0;subst hb0;simp [end8]
   ·simp [end8,zID]
  have hrise:end8 w (if b=[] then ([]++a,false) else ([]++a++[⟨w.Key,w.Val⟩]++b.filter (zID w),true))=a++[⟨w.Key,w.Val⟩]++b.filter (zID w):=by
   split
   ·rename_i hb0;subst hb0;simp [end8]
   ·simp [end8]
  rw [e] at hr
  obtain ⟨r1,r2,r3⟩:=List.pairwise_append.1 hr
  refine ⟨?_,λp=>?_⟩
  ·rw [hrise]
   refine List.pairwise_append.2 ⟨List.pairwise_append.2 ⟨r1,by simp,λx hx y hy=>?_⟩,r2.sublist List.filter_sublist,λx hx y hy=>?_⟩
   ·simp at hy;subst hy;exact ha x hx
   ·obtain ⟨hy1,hy2⟩:=List.mem_filter.1 hy
    rcases List.mem_append.1 hx with hx|hx
    ·exact r3 x hx y hy1
    ·simp at hx;subst hx
     exact zEe (by rw [hb y hy1];decide) (by simpa [zID] using hy2)
  ·rw [hmem]
   have hin:∀ q:Pai,(q∈a∨q∈b)↔f q.Key=some q.Val:=λq=>by rw [← hm,e,List.mem_append]
   unfold zJX
   by_cases hk:p.Key=w.Key
   ·rw [if_pos hk,if_neg (by rw [hg];decide)]
    constructor
    ·rintro (h1|h1|h1)
     ·have:=ha p h1;rw [hk] at this;exact absurd this (Z6 _)
     ·rw [h1]
     ·exact absurd hk h1.2
    ·intro h1
     right;left
     obtain ⟨pk,pv⟩:=p
     simp at hk h1;subst hk;subst h1;rfl
   ·rw [if_neg hk,← hin]
    constructor
    ·rintro (h1|h1|h1)
     ·exact .inl h1
     ·rw [h1] at hk;exact absurd rfl hk
     ·exact .inr h1.1
    ·rintro (h1|h1)
     ·exact .inl h1
     ·exact .inr (.inr ⟨h1,hk⟩)
theorem zLu:∀ (ws:List Wri) {f:ByteArray->Option ByteArray} {l:List Pai},zAK f l->zAK (allF f ws) (allL l ws)
 |[],_,_,h=>h
 |w::ws,_,_,h=>zLu ws (zJn h w)
theorem zLU:∀ (ws:List Wri) (f:ByteArray->Option ByteArray) (key:ByteArray),(∀ w∈ws,w.Key≠key)->allF f ws key=f key
 |[],_,_,_=>rfl
 |w::ws,f,key,h=>by
  show allF (zJX f w) ws key=_
  rw [zLU ws _ key λx hx=>h x (by simp [hx])]
  unfold zJX;rw [if_neg λe=>h w (by simp) e.symm]
theorem zPF:∀ (ws:List Wri) (f:ByteArray->Option ByteArray) (w:Wri),(zDw ws).Nodup->w∈ws->allF f ws w.Key=if w.Gone=true then none else some w.Val
 |[],_,_,_,h=>by simp at h
 |x::ws,f,w,hn,h=>by
  have hn':x.Key∉zDw ws/\(zDw ws).Nodup:=List.nodup_cons.1 hn
  show allF (zJX f x) ws w.Key=_
  rcases List.mem_cons.1 h with e|e
  ·subst e
   rw [zLU ws _ _ λy hy e=>hn'.1 (by rw [← e];exact List.mem_map.2 ⟨y,hy,rfl⟩)]
   unfold zJX;rw [if_pos rfl]
  ·exact zPF ws _ w hn'.2 e
theorem zQO {wr:ByteArray->Option Wri} {ws:List Wri} (h:zFe wr ws) (hk:∀ k x,wr k=some x->x.Key=k) (f:ByteArray->Option ByteArray):allF f ws=ovl wr f:=by
 funext key
 unfold ovl
 cases hw:wr key with
 |some x=>
  have hxk:=hk key x hw
  have hx:x∈ws:=(h.2 x).2 (by rw [hxk];exact hw)
  rw [← hxk];exact zPF ws f x h.keys hx
 |none=>
  exact zLU ws f key λw hw' e=>by
   have:=(h.2 w).1 hw';rw [e,hw] at this;cases this
theorem zLz (l:List Pai) (w:Wri):(zIv l w).length<=l.length+1:=by
 have:∀ (l:List Pai) (o:List Pai × Bool),(l.foldl (zCd w) o).1.length+(if (l.foldl (zCd w) o).2=true then 0 else 1)<=o.1.length+l.length+(if o.2=true then 0 else 1):=by
  intro l
  induction l with
  |nil=>intro o;simp only [List.foldl_nil,List.length_nil,Nat.add_zero];exact zU _
  |cons p l ih=>
   intro o
   rw [List.foldl_cons]
   refine zn (ih _) ?_
   obtain ⟨o1,o2⟩:=o
   cases hs:sLt p.Key w.Key<;>cases o2<;>simp [zCd,hs]<;>split<;>simp<;>omega
 have h:=this l ([],w.Gone)
 unfold zIv end8
 simp only [List.length_nil,Nat.zero_add] at h
 split
 ·rename_i h1;rw [if_pos h1] at h;split at h<;>omega
 ·rename_i h1;rw [if_neg h1] at h;rw [zg,List.length_singleton];split at h<;>omega
theorem zOV {f:ByteArray->Option ByteArray} {l:List Pai} (h:zAK f l) (x:Spn):zAK (cut x f) (l.filter λp=>Qr x p.Key):=by
 refine ⟨h.1.sublist List.filter_sublist,λp=>?_⟩
 rw [List.mem_filter,h.2]
 unfold cut
 by_cases hs:Qr x p.Key=true
 ·simp [hs]
 ·simp [hs]
theorem zPu (key:ByteArray):Qr (Y3 noB noB) key=true:=by
 unfold Qr
 simp only [Bool.false_eq_true,if_false,decide_true,Bool.true_or,Bool.and_true,Bool.not_eq_true']
 cases h:sLt key noB with
 |false=>rfl
 |true=>exact absurd h (by rw [zK3];simp)
theorem zOj (f:ByteArray->Option ByteArray):cut (Y3 noB noB) f=f:=by
 funext key;unfold cut;rw [if_pos (zPu key)]
theorem zNo (fr to key:ByteArray):zHI fr to key↔Qr (Y3 fr to) key=false:=by
 unfold zHI Qr
 simp only [Bool.false_eq_true,if_false]
 cases h1:sLt key fr<;>cases h2:sLt key to<;>by_cases h3:to=noB<;>simp [h3]
end Go.Proofs.YtealcoghiaeiiaaGreat.VG
set_option linter.unusedVariables false
set_option linter.unusedSimpArgs false
namespace Go.Proofs.YtealcoghiaeiiaaGreat.VG
open Go.VB Go.Proofs
def zAe (x13:Sl) (Kl3:Sl->World->Prop) (v:Value) (x16:Option Addr) (x81:Bool) (w:World):Prop:=
 (x81=true->(opE zA zB (zN 34 (.pointer x16) 0) w (λx83 w=>opE zA zZ (zD 9 (.pointer x83)) w (λx84 w=>opE zA zB (zN 34 (.pointer x16) 1) w (λx85 w=>opE zA zZ (zD 9 (.pointer x85)) w (λx86 w=>opE zA zM.v (yr 66 [(0,(.string x84)),(1,(.string x86))].toArray) w (λx87 w=>opE zA Sl.v (ze 22 1 [(0,(zM.v x87))].toArray) w (λx88 w=>opE zA Sl.v (Builtin.append_ #[22,22] 22 [(Sl.v x13),(Sl.v x88)].toArray) w (λx89 w=>Kl3 x89 w)))))))))/\(x81=false->(Kl3 x13 w))
def zCA (Ret:Sl->Int->World->Prop) (x12:Option Addr) (x68:Option Addr) (x13:Sl) (w:World) (Kl3:Sl->World->Prop):Prop:=
 opE zA (zKx id id) (Instr.next (.pointer x68) false 0) w (λr_5 w=>(r_5=none->(Cl zA 46 [(Sl.v x13),(.func (.func 47) #[] #[])].toArray w (λe w=>e=.returned (.tuple [].toArray)/\(Ret x13 0 w))))/\(∀ k v,r_5=some (k,v)->(opE zA (λp:Value × Value=>.tuple [p.1,p.2].toArray) (Instr.entry (.pointer x68)) w (λx71 w=>opE zA zB (zf 34 true (.tuple #[])) w (λx16 w=>opU zA (zK 34 (.pointer x16) x71.2) w (λw=>opE zA zB (zN 34 (.pointer x16) 2) w (λx73 w=>opE zA xv (zD 4 (.pointer x73)) w (λx74 w=>((!x74)=true->(opE zA yD.v (zD 103 (.pointer x12)) w (λx77 w=>opE zA zB (zN 34 (.pointer x16) 0) w (λx78 w=>opE zA zZ (zD 9 (.pointer x78)) w (λx79 w=>Cl zA 45 [(yD.v x77),(.string x79)].toArray w (λe w=>∃ (r_6:Bool),e=.returned (.bool r_6)/\(zAe x13 Kl3 v x16 r_6 w)))))))/\((!x74)=false->(zAe x13 Kl3 v x16 false w))))))))))
def zFX (x0:Option Addr) (x1:Int) (x2:ByteArray) (x3:ByteArray) (w:World) (Ret:Sl->Int->World->Prop):Prop:=
 Cl zA 36 [(.pointer x0),(.int .i64 x1)].toArray w (λe w=>∃ (r:Option Addr) (r_1:Int),e=.returned (.tuple [(.pointer r),(.int .i64 r_1)].toArray)/\(opE zA zB (zf 88 true (.tuple #[])) w (λx10 w=>opU zA (zK 88 (.pointer x10) (.pointer r)) w (λw=>((r_1≠0)->(Ret Sl.none r_1 w))/\(¬ (r_1≠0)->(opE zA zB (zD 88 (.pointer x10)) w (λx28 w=>Qg (.pointer x28)/\(opE zA zB (zN 92 (.pointer x28) 1) w (λx30 w=>opE zA Sl.v (zD 90 (.pointer x30)) w (λx31 w=>((256<=(x31.len:Int))->(Ret Sl.none 3 w))/\(¬ (256<=(x31.len:Int))->(opE zA yD.v (yr 103 [(0,(.string x2)),(1,(.string x3))].toArray) w (λx36 w=>opE zA zB (zf 103 true (.tuple #[])) w (λx12 w=>opU zA (zK 103 (.pointer x12) (yD.v x36)) w (λw=>regC w (λC1 w=>opC C1 zA zB (zD 88 (.pointer x10)) (λx37=>opC C1 zA zB (zD 88 (.pointer x10)) (λx38=>Qg (.pointer x38)/\(opC C1 zA zB (zN 92 (.pointer x38) 1) (λx40=>opC C1 zA Sl.v (zD 90 (.pointer x40)) (λx41=>opC C1 zA yD.v (zD 103 (.pointer x12)) (λx42=>opE zA Sl.v (ze 90 1 [(0,(yD.v x42))].toArray) w (λx43 w=>C1 w/\(opE zA Sl.v (Builtin.append_ #[90,90] 90 [(Sl.v x41),(Sl.v x43)].toArray) w (λx44 w=>C1 w/\(Qg (.pointer x37)/\(opC C1 zA zB (zN 92 (.pointer x37) 1) (λx46=>opU zA (zK 90 (.pointer x46) (Sl.v x44)) w (λw=>(regC w (λC2 w=>Qg (.pointer x0)/\(opC C2 zA zB (zN 87 (.pointer x0) 0) (λx50=>opC C2 zA zQ.v (zD 69 (.pointer x50)) (λx51=>opC C2 zA zB (zD 88 (.pointer x10)) (λx54=>Qg (.pointer x54)/\(opC C2 zA zB (zN 92 (.pointer x54) 0) (λx56=>opC C2 zA (zV .u64) (zD 37 (.pointer x56)) (λx57=>Cl zA 42 [(zQ.v x51),(.string x2),(.string x3),(.int .u64 x57)].toArray w (λe w=>∃ (r_2:Sl) (r_3:Int),e=.returned (.tuple [(Sl.v r_2),(.int .i64 r_3)].toArray)/\(C2 w/\(Cl zA 43 [(Sl.v r_2),(.func (.func 44) [].toArray [(.pointer x10)].toArray)].toArray w (λe w=>∃ (r_4:Sl),e=.returned (Sl.v r_4)/\(opE zA zB (zD 88 (.pointer x10)) w (λx64 w=>Qg (.pointer x64)/\(opE zA zB (zN 92 (.pointer x64) 2) w (λx66 w=>opE zA Value.map (zD 89 (.pointer x66)) w (λx67 w=>opE zA zB (Instr.range 89 (.map x67)) w (λx68 w=>∃ (I:Sl->World->Prop) (μ:Sl->World->Nat),I r_4 w/\∀ (x13:Sl) w,I x13 w->zCA Ret x12 x68 x13 w (λx13' w'=>I x13' w'/\μ x13' w'<μ x13 w)))))))))))))))))))))))))))))))))))))))))))))))))
set_option maxRecDepth 100000 in
theorem zJI (x0:Option Addr) (x1:Int) (x2:ByteArray) (x3:ByteArray) (w:World) (Ret:Sl->Int->World->Prop) (H:zFX x0 x1 x2 x3 w Ret):Cl zA 17 [(.pointer x0),(.int .i64 x1),(.string x2),(.string x3)].toArray w (λe w'=>∃ (r0:Sl) (r1:Int),e=.returned (.tuple [(Sl.v r0),(.int .i64 r1)].toArray)/\Ret r0 r1 w'):=by
 unfold zFX at H
 refine zp 93 (zipE 0 [(.pointer x0),(.int .i64 x1),(.string x2),(.string x3)]) Tryz.func17 rfl rfl (by rfl) rfl ?_
 intro a g
 have g:Sat [] 93 [(0,(.pointer x0)),(1,(.int .i64 x1)),(2,(.string x2)),(3,(.string x3))] a:=g
 refine zI (zE (g.s rfl λ_ g=>g.s rfl λ_ g=>zL (tn (zI (zE (g.m rfl λ_ g=>g.m rfl λ_ g=>g.c (zb g zM9 rfl rfl) H λe w H=>?_))))))
 obtain ⟨r,r_1,rfl,H⟩:=H
 refine ⟨_,rfl,λ_ g=>(g.m rfl λ_ g=>g.p (zc g rfl rfl) λ_ g=>g.p (zc g rfl rfl) λ_ g=>g.o (xY) H λx10 w a H g=>g.h (zT g rfl rfl) H λw a H g=>g.s rfl λ_ g=>zL (tn (zI (zX (zI (zE (g.m rfl λ_ g=>g.p (zFc g rfl rfl) λ_ g=>g.s rfl λ_ g=>zL (tn (zd g rfl (λhc=>?_) (λhc=>?_))))))))))⟩
 ·have H:=H.1 hc
  exact zI (zE (g.m rfl λ_ g=>g.s rfl λ_ g=>g.s rfl λ_ g=>zL (tn (zl (br (tr (ZK g rfl rfl rfl ⟨_,_,rfl,H⟩)))))))
 ·have H:=H.2 hc
  refine zI (zE (g.o (zO g rfl) H λx28 w a H g=>g.p (zj g rfl H.1) λ_ g=>?_))
  have H:=H.2
  refine g.o (zP g rfl) H λx30 w a H g=>g.o (zO g rfl) H λx31 w a H g=>g.purR (λw=>ZU g Tryz.underlying90 rfl) λ_ g=>g.p (Zm g rfl rfl) λ_ g=>g.s rfl λ_ g=>zL (tn (zd g rfl (λhc=>?_) (λhc=>?_)))
  ·have H:=H.1 hc
   exact zI (zE (g.s rfl λ_ g=>g.s rfl λ_ g=>zL (tn (zl (br (tr (ZK g rfl rfl rfl ⟨_,_,rfl,H⟩)))))))
  ·have H:=H.2 hc
   refine zY (bn (tn (zI (zE (g.m rfl λ_ g=>g.m rfl λ_ g=>g.o (Z5 g rfl) H λx36 w a H g=>g.o (xY) H λx12 w a H g=>g.h (zT g rfl rfl) H λw a H g=>zL (tn (zI (zLt 10 H 11 (λC1 w hC0 H=>g.ko 0 rfl hC0 (zO g rfl) H λx37 a H g=>g.ko 1 rfl hC0 (zO g rfl) H λx38 a H g=>g.kp 2 rfl hC0 (xu (zj g rfl H.1)) λ_ g=>?_)))))))))
   have H:=H.2
   refine g.ko 3 rfl hC0 (zP g rfl) H λx40 a H g=>g.ko 4 rfl hC0 (zO g rfl) H λx41 a H g=>g.ko 5 rfl hC0 (zO g rfl) H λx42 a H g=>WK.on 6 rfl ?_
   intro K hK
   refine g.i (yj g rfl) H λx43 w a H g=>hK _ _ ⟨H.1,?_⟩
   have hC1:=H.1
   have H:=H.2
   refine WK.on 7 rfl ?_
   intro K hK
   refine g.i (zA6 g rfl) H λx44 w a H g=>hK _ _ ⟨H.1,?_⟩
   have hC2:=H.1
   have H:=H.2
   refine g.kp 8 rfl hC2 (xu (zj g rfl H.1)) λ_ g=>?_
   have H:=H.2
   refine g.ko 9 rfl hC2 (zP g rfl) H λx46 a H g=>WK.la 10 rfl ?_
   intro K hK
   refine g.wopu (zT g rfl rfl) H λw a H g=>hK _ _ (WK.nil (by kernel_rfl) ((tn (zI (zLt 15 H 16 (λC2 w hC0 H=>g.kp 0 rfl hC0 (xu (zR g rfl)) λ_ g=>g.kp 1 rfl hC0 (xu (zj g rfl H.1)) λ_ g=>?_))))))
   have H:=H.2
   refine g.ko 2 rfl hC0 (zP g rfl) H λx50 a H g=>g.kp 4 rfl hC0 (xu (zR g rfl)) λ_ g=>g.kp 5 rfl hC0 (xu (zR g rfl)) λ_ g=>g.ko 3 rfl hC0 (zO g rfl) H λx51 a H g=>g.ko 6 rfl hC0 (zO g rfl) H λx54 a H g=>g.kp 7 rfl hC0 (xu (zj g rfl H.1)) λ_ g=>?_
   have H:=H.2
   refine g.ko 8 rfl hC0 (zP g rfl) H λx56 a H g=>g.ko 9 rfl hC0 (zO g rfl) H λx57 a H g=>WK.on 10 rfl ?_
   intro K hK
   refine g.wcall (zb g zTC rfl rfl) H λe w H=>?_
   obtain ⟨r_2,r_3,rfl,H⟩:=H
   refine ⟨_,rfl,λ_ g=>(hK _ _ ⟨H.1,?_⟩)⟩
   have hC1:=H.1
   have H:=H.2
   refine g.kp 11 rfl hC1 (xu (zR g rfl)) λ_ g=>g.kp 12 rfl hC1 (xu (zc g rfl rfl)) λ_ g=>g.kp 13 rfl hC1 (xu (zc g rfl rfl)) λ_ g=>g.kp 14 rfl hC1 (xu (ZI g rfl)) λ_ g=>g.kp 15 rfl hC1 (xu (ZI g rfl)) λ_ g=>WK.nil (by kernel_rfl) ((tn (zI (zE (g.m rfl λ_ g=>g.p (zGK g rfl rfl) λ_ g=>g.c (zb g zSq rfl rfl) H λe w H=>?_)))))
   obtain ⟨r_4,rfl,H⟩:=H
   refine ⟨_,rfl,λ_ g=>(g.s rfl λ_ g=>zL (tn (zI (zI (zE (g.o (zO g rfl) H λx64 w a H g=>g.p (zj g rfl H.1) λ_ g=>?_))))))⟩
   have H:=H.2
   refine g.o (zP g rfl) H λx66 w a H g=>g.o (zO g rfl) H λx67 w a H g=>g.o (zK5 g rfl) H λx68 w a H g=>zL (tn (zX ?_))
   obtain ⟨I_l3,μ_l3,h0,hb⟩:=H
   refine yE (ds:=[]) (N:=93) (σ:=Sl) (λs=>[(13,(Sl.v s)),(12,(.pointer x12)),(68,(.pointer x68))]) (λs w=>I_l3 s w) (λs w=>μ_l3 s w) r_4 h0 (g.k) ?_
   intro x13 w a hI g
   try dsimp only at hI g
   obtain ⟨Kl3,hK_l3⟩:∃ K:Sl->World->Prop,K=(λx13' w'=>I_l3 x13' w'/\μ_l3 x13' w'<μ_l3 x13 w):=⟨_,rfl⟩
   have H:zCA Ret x12 x68 x13 w Kl3:=by rw [hK_l3];exact hb x13 w hI
   clear hb h0 hI
   unfold zCA at H
   refine zI (zE (g.o (zMa g rfl) H λr_5 w a H g=>?_))
   rcases r_5 with _|⟨k,v⟩
   ·have H:=H.1 rfl
    refine g.p (zc g rfl rfl) λ_ g=>zL (tn (zI (zk g rfl (λh=>nomatch h) (λ_=>z7 (te (te (be (tn (zI (zE (g.m rfl λ_ g=>g.c (zb g zTb rfl rfl) H λe w H=>?_)))))))))))
    obtain ⟨rfl,H⟩:=H
    exact ⟨_,rfl,λ_ g=>(zL (tn (zI (zE (g.m rfl λ_ g=>g.s rfl λ_ g=>g.s rfl λ_ g=>zL (tn (zl (ZK g rfl rfl rfl ⟨_,_,rfl,H⟩))))))))⟩
   ·have H:=H.2 _ _ rfl
    refine g.p (zc g rfl rfl) λ_ g=>zL (tn (zI (zk g rfl (λ_=>zY (tn (zX (zI (zE (g.o (zK0 g rfl) H λx71 w a H g=>g.p (zc g rfl rfl) λ_ g=>g.o (xY) H λx16 w a H g=>g.h (zT g rfl rfl) H λw a H g=>zL (tn (zI (zE (g.o (zP g rfl) H λx73 w a H g=>g.o (zO g rfl) H λx74 w a H g=>g.p (zAJ g rfl) λ_ g=>g.m rfl λ_ g=>WL.join (ds:=[]) (N:=93) (σ:=Bool) (λs=>[(81,(.bool s)),(12,(.pointer x12)),(13,(Sl.v x13)),(16,(.pointer x16)),(68,(.pointer x68))]) (λs w=>zAe x13 Kl3 v x16 s w) 5 ?_ (λhr4=>?_))))))))))) (λh=>nomatch h))))
    ·intro x81 w a H g
     try dsimp only at H g
     unfold zAe at H
     refine zL (tn (zk g rfl (λhc=>?_) (λhc=>?_)))
     ·have H:=H.1 hc
      refine zE (g.m rfl λ_ g=>g.o (zP g rfl) H λx83 w a H g=>g.o (zO g rfl) H λx84 w a H g=>g.o (zP g rfl) H λx85 w a H g=>g.o (zO g rfl) H λx86 w a H g=>g.o (Z5 g rfl) H λx87 w a H g=>g.o (yj g rfl) H λx88 w a H g=>g.o (zA6 g rfl) H λx89 w a H g=>g.s rfl λ_ g=>?_)
      rw [hK_l3] at H
      exact zL (bn (tn ⟨x89,g.k,H⟩))
     ·have H:=H.2 hc
      rw [hK_l3] at H
      exact zY (bn (tn ⟨x13,g.k,H⟩))
    ·rcases Bool.eq_false_or_eq_true ((!x74)) with hbr4|hbr4
     ·have H:=H.1 hbr4
      have g:=g.b (b:=true) (t:=76) rfl (hbr4)
      refine g.z (g.o (zO g rfl) H λx77 w a H g=>g.z (g.o (zP g rfl) H λx78 w a H g=>g.z (g.o (zO g rfl) H λx79 w a H g=>g.z (g.c (zb g zR1 rfl rfl) H λe w H=>?_))))
      obtain ⟨r_6,rfl,H⟩:=H
      exact ⟨_,rfl,λ_ g=>(g.p (zx g rfl rfl) λ_ g=>hr4 r_6 _ _ H (g.k))⟩
     ·have H:=H.2 hbr4
      have g:=g.b (b:=false) (t:=76) rfl (hbr4)
      exact g.d (λ_ g=>g.d (λ_ g=>g.d (λ_ g=>g.d (λ_ g=>g.p (zy g rfl rfl) λ_ g=>hr4 false _ _ H (g.k)))))
def zEE (x0:zM) (x1:Option Addr) (w:World) (Ret:Bool->World->Prop):Prop:=
 opE zA zB (Instr.box 66 (zM.v x0)) w (λx2 w=>regC w (λC1 w=>opC C1 zA zB (zN 66 (.pointer x2) 0) (λx11=>opC C1 zA zB (zD 88 (.pointer x1)) (λx7=>Qg (.pointer x7)/\(opC C1 zA zB (zN 92 (.pointer x7) 2) (λx9=>opC C1 zA Value.map (zD 89 (.pointer x9)) (λx10=>opC C1 zA zZ (zD 9 (.pointer x11)) (λx12=>opC C1 zA (λp:zJ × Bool=>.tuple [(zJ.v p.1),(.bool p.2)].toArray) (Instr.lookup 89 (.map x10) (.string x12) true) (λx13=>opE zA zB (zf 34 true (.tuple #[])) w (λx4 w=>C1 w/\(opU zA (zK 34 (.pointer x4) (zJ.v x13.1)) w (λw=>C1 w/\(Ret x13.2 w)))))))))))))
set_option maxRecDepth 100000 in
theorem zIT (x0:zM) (x1:Option Addr) (w:World) (Ret:Bool->World->Prop) (H:zEE x0 x1 w Ret):Cl zA 44 [(zM.v x0),(.pointer x1)].toArray w (λe w'=>∃ (r0:Bool),e=.returned (.bool r0)/\Ret r0 w'):=by
 unfold zEE at H
 refine zp 17 (zipE 0 [(zM.v x0),(.pointer x1)]) Tryz.func44 rfl rfl (by rfl) rfl ?_
 intro a g
 have g:Sat [] 17 [(0,(zM.v x0)),(1,(.pointer x1))] a:=g
 refine zI (zE (g.o (zBc g rfl) H λx2 w a H g=>g.s rfl λ_ g=>zL (tn (zI (zLt 12 H 13 (λC1 w hC0 H=>g.ko 4 rfl hC0 (zP g rfl) H λx11 a H g=>g.ko 0 rfl hC0 (zO g rfl) H λx7 a H g=>g.kp 1 rfl hC0 (xu (zj g rfl H.1)) λ_ g=>?_))))))
 have H:=H.2
 refine g.ko 2 rfl hC0 (zP g rfl) H λx9 a H g=>g.ko 3 rfl hC0 (zO g rfl) H λx10 a H g=>g.ko 5 rfl hC0 (zO g rfl) H λx12 a H g=>g.ko 6 rfl hC0 (zId g rfl rfl) H λx13 a H g=>g.kp 7 rfl hC0 (xu (zR g rfl)) λ_ g=>g.kp 8 rfl hC0 (xu (zc g rfl rfl)) λ_ g=>g.kp 9 rfl hC0 (xu (zc g rfl rfl)) λ_ g=>WK.on 10 rfl ?_
 intro K hK
 refine g.i (xY) H λx4 w a H g=>hK _ _ ⟨H.1,?_⟩
 have hC1:=H.1
 have H:=H.2
 refine WK.on 11 rfl ?_
 intro K hK
 refine g.wopu (zT g rfl rfl) H λw a H g=>hK _ _ ⟨H.1,?_⟩
 have hC2:=H.1
 have H:=H.2
 exact g.kp 12 rfl hC2 (xu (ZI g rfl)) λ_ g=>WK.nil (by kernel_rfl) ((tn (zI (zE (g.m rfl λ_ g=>g.s rfl λ_ g=>zL (tn (zl (zw g rfl rfl ⟨_,rfl,H⟩))))))))
def zEQ (x0:zM) (x1:zM) (w:World) (Ret:Int->World->Prop):Prop:=
 opE zA zB (Instr.box 66 (zM.v x0)) w (λx2 w=>opE zA zB (Instr.box 66 (zM.v x1)) w (λx3 w=>opE zA zB (zN 66 (.pointer x2) 0) w (λx5 w=>opE zA zZ (zD 9 (.pointer x5)) w (λx6 w=>opE zA zB (zN 66 (.pointer x3) 0) w (λx7 w=>opE zA zZ (zD 9 (.pointer x7)) w (λx8 w=>Cl zA 48 [(.string x6),(.string x8)].toArray w (λe w=>∃ (r:Int),e=.returned (.int .i64 r)/\(Ret r w))))))))
set_option maxRecDepth 100000 in
theorem zIP (x0:zM) (x1:zM) (w:World) (Ret:Int->World->Prop) (H:zEQ x0 x1 w Ret):Cl zA 47 [(zM.v x0),(zM.v x1)].toArray w (λe w'=>∃ (r0:Int),e=.returned (.int .i64 r0)/\Ret r0 w'):=by
 unfold zEQ at H
 refine zp 10 (zipE 0 [(zM.v x0),(zM.v x1)]) Tryz.func47 rfl rfl (by rfl) rfl ?_
 intro a g
 have g:Sat [] 10 [(0,(zM.v x0)),(1,(zM.v x1))] a:=g
 refine zI (zE (g.o (zBc g rfl) H λx2 w a H g=>g.o (zBc g rfl) H λx3 w a H g=>g.s rfl λ_ g=>zL (tn (zI (zE (g.o (zP g rfl) H λx5 w a H g=>g.o (zO g rfl) H λx6 w a H g=>g.o (zP g rfl) H λx7 w a H g=>g.o (zO g rfl) H λx8 w a H g=>g.c (zb g zQx rfl rfl) H λe w H=>?_))))))
 obtain ⟨r,rfl,H⟩:=H
 exact ⟨_,rfl,λ_ g=>(g.s rfl λ_ g=>zL (tn (zl (zw g rfl rfl ⟨_,rfl,H⟩))))⟩
end Go.Proofs.YtealcoghiaeiiaaGreat.VG
set_option linter.unusedVariables false
set_option linter.unusedSimpArgs false
namespace Go.VB
open Go.RowKit
section
variable {P:Program} {w:World} {α:Type} {c:α->List Value} {n e t base:Nat} {s:Sl}
theorem OwnS.cut {xs:List α} (hO:OwnS c n e base w s xs) (hc:∀ x,(c x).length=n) {i:Nat} (hi:i<=xs.length) (hpos:0<xs.length):OwnS c n e base w (s.sub 0 i n) (xs.take i):=by
 obtain ⟨g,cap,cur,rfl,hh,hcap,hm,hsz,htk,hb⟩:=hO.at hpos
 have hsmall:=hO.small
 simp only at hsmall
 have e1:(⟨some ⟨g,0,none⟩,xs.length,cap⟩:Sl).sub 0 i n=⟨some ⟨g,0,none⟩,i,cap⟩:=by
  unfold Sl.sub;simp [show ¬ cap=0 by omega,Addr.add]
 rw [e1]
 refine ⟨by simp;omega,by show i<=_;omega,?_,.inr ⟨g,cap,cur,rfl,hb,hh,by show i<=cap;omega,hm,hsz,?_⟩⟩
 ·rw [zFC hc,List.length_take];show min i xs.length*n=i*n;rw [Nat.min_eq_left hi]
 ·have h2:xs=xs.take i++xs.drop i:=(List.take_append_drop i xs).symm
  have h3:(xs.flatMap c).take (i*n)=(xs.take i).flatMap c:=by
   conv=>lhs;rw [h2,List.flatMap_append]
   have hl:((xs.take i).flatMap c).length=i*n:=by rw [zFC hc,List.length_take,Nat.min_eq_left hi]
   rw [List.take_append,List.take_of_length_le (by omega),hl];simp
  rw [← h3,← htk,List.take_take,Nat.min_eq_left (Nat.mul_le_mul_right _ hi)]
theorem zOP {xs:List α} (hO:OwnS c n e base w s xs) (hc:∀ x,(c x).length=n) (hu:P.underlying t=some (.slice e)) (hs:∀ w,(sizeOf e).run P w=.ok n w)
  {z:Value} (hz:∀ w,(zeroValue e).run P w=.ok z w) (hzn:z.cells.size=n) (hz1:z.cells.toList.all (·.oneCell')=true) (hn:0<n) {i:Nat} (hi:i<xs.length) {ty:TypeId} {k:Sl->World->Prop}
  (H:∀ w',OwnS c n e base w' (s.sub 0 i n) (xs.take i)->w.grownBy w' (Sl.v s).ownBlock->(Sl.v (s.sub 0 i n)).ownBlock=(Sl.v s).ownBlock->k (s.sub 0 i n) w'):
  opE P Sl.v (Instr.sliceAt t (Sl.v s) (some (.int .i64 (i:Int))) none none) w (λy w=>opE P (λ_:Unit=>.tuple #[]) (Builtin.clear_ #[t] ty [Sl.v y].toArray) w (λz w=>opE P Sl.v (Instr.sliceAt t (Sl.v s) none (some (.int .i64 (i:Int))) none) w k)):=by
 obtain ⟨g,cap,cur,rfl,hh,hcap,hm,hsz,htk,hb⟩:=hO.at (by omega)
 have hsmall:=hO.small
 simp only at hsmall
 have e1:(⟨some ⟨g,0,none⟩,xs.length,cap⟩:Sl).sub 0 i n=⟨some ⟨g,0,none⟩,i,cap⟩:=by
  unfold Sl.sub;simp [show ¬ cap=0 by omega,Addr.add]
 refine ⟨_,w,zQg hu hs (by show i<=xs.length;omega),?_⟩
 have e2:(⟨some ⟨g,0,none⟩,xs.length,cap⟩:Sl).sub i xs.length n=⟨some ⟨g,i*n,none⟩,xs.length - i,cap - i⟩:=by
  unfold Sl.sub
  simp only
  rw [if_neg (by omega)]
  simp [add_plain']
 rw [e2]
 obtain ⟨m,hm1⟩:∃ m,xs.length - i=m+1:=⟨xs.length - i - 1,by omega⟩
 let zs:List Value:=(Builtin.zeroCells z.cells (m+1)).toList
 have hzl:zs.length=(m+1)*n:=by show (Builtin.zeroCells z.cells (m+1)).toList.length=_;rw [Array.length_toList,size_zeroCells,hzn]
 have hz2:∀ v∈zs,v.oneCell'=true:=λv hv=>by
  have hv':v∈Builtin.zeroCells z.cells (m+1):=by simpa [zs] using hv
  unfold Builtin.zeroCells at hv'
  obtain ⟨j,hj,rfl⟩:=Array.mem_map.1 hv'
  have hlt:j % z.cells.size<z.cells.size:=Nat.mod_lt _ (by omega)
  rw [getElem!_pos z.cells _ hlt]
  rw [List.all_eq_true] at hz1
  exact hz1 _ (by simp)
 have hin:i*n+zs.length<=cur.size:=by
  rw [hzl,hsz,← Nat.add_mul];exact Nat.mul_le_mul_right _ (by omega)
 have hst:=run_storeCells_at (P:=P) g (i*n) e zs 0 cur w hh (by simpa using hin) hz2
 have hcl:(Builtin.clear_ #[t] ty [Sl.v ⟨some ⟨g,i*n,none⟩,xs.length - i,cap - i⟩].toArray).run P w=.ok (.tuple #[]) (w.setRow g (cur.toList.take (i*n)++zs++cur.toList.drop (i*n+zs.length)).toArray):=by
  have hst':(storeCells ⟨g,i*n,none⟩ (Builtin.zeroCells z.cells (m+1)).toList).run P w=.ok () (w.setRow g (cur.toList.take (i*n)++zs++cur.toList.drop (i*n+zs.length)).toArray):=by simpa using hst
  rw [hm1]
  simp only [Builtin.clear_,Sl.v]
  simp [run_underlying hu,hz w,hst']
 refine ⟨(),_,hcl,?_⟩
 refine ⟨_,_,zPn hu hs (by show i<=cap;omega),?_⟩
 refine H _ ?_ (zEX w g _) (by rw [e1];rfl)
 rw [e1]
 have h1:=hO.cut hc (i:=i) (by omega) (by omega)
 rw [e1] at h1
 refine ⟨h1.len,h1.small,h1.row.1,.inr ⟨g,cap,_,rfl,hb,zFb hh,by show i<=cap;omega,hm,?_,?_⟩⟩
 ·simp only [List.size_toArray,zg,List.length_take,List.length_drop,Array.length_toList]
  rw [← hsz];omega
 ·rcases h1.row.2 with ⟨h2,_⟩|⟨g',cap',cur',h2,_,h4,_,_,_,h8⟩
  ·cases h2
  ·injection h2 with h2 h3 h5
   injection h2 with h2
   injection h2 with h2
   subst h2
   rw [hh] at h4
   injection h4 with h4
   injection h4 with h4
   subst h4
   rw [← h8]
   show ((cur.toList.take (i*n)++zs++cur.toList.drop (i*n+zs.length))).take (i*n)=cur.toList.take (i*n)
   have hl:(cur.toList.take (i*n)).length=i*n:=by rw [List.length_take,Array.length_toList];omega
   rw [List.append_assoc,List.take_append,List.take_of_length_le (by omega),hl];simp
end
end Go.VB
namespace Go.Proofs.YtealcoghiaeiiaaGreat.VG
open Go.VB Go.VB.Srt Go.Proofs Go.RowKit
abbrev zSw:zGE zA YK zAG 2 zM.cells zM.v:=zGE.agg YA YR (λ_=>rfl) (λ_=>rfl) (by decide)
theorem zKP {w:World} {x:Sl} {l:List Pai} (hd:zHL w x l) {fv:Value} {p:Pai->Bool} (hp:zGt fv p l w) {k:Int->World->Prop}
  (H0:l.any p=false->∀ w',Bel w w'->k (-1) w')
  (H1:∀ (n:Nat) d,l[n]?=some d->p d=true->(l.take n).any p=false->∀ w',Bel w w'->k (n:Int) w'):
  Cl zA zEr [Sl.v x,fv].toArray w (λe w'=>∃ r0:Int,e=.returned (.int .i64 r0)/\k r0 w'):=by
 have dbig:=hd.big;have dcap:=hd.cap;have dlen:=hd.len
 refine zBy x _ w _ ?_
 unfold ZM
 refine ⟨λi w1=>∃ n:Nat,i=(n:Int)/\n<=l.length/\Bel w w1/\(l.take n).any p=false,λi _=>(x.len - i).toNat,⟨0,rfl,by omega,Bel.refl _,by simp⟩,?_⟩
 rintro i w1 ⟨n,rfl,hn,hb,hno⟩
 unfold QY
 refine ⟨λhc=>?_,λhc=>?_⟩
 ·obtain ⟨d,hdn⟩:=getE (l:=l) (n:=n) (by omega)
  refine zDA (hd.bel hb) YR Zh (by omega) (x:=d) (by simpa using hdn) λad hA=>?_
  refine Za YA d rfl hA rfl ?_
  refine hp d (List.mem_of_getElem? hdn) w1 _ hb λw2 b2=>⟨λht=>?_,λhf=>?_⟩
  ·exact H1 n d hdn ht hno w2 (hb.trans b2)
  ·rw [wr64 (by omega) (by omega)]
   exact ⟨⟨n+1,by omega,by omega,hb.trans b2,by rw [zJ0 hdn p hno];exact hf⟩,by dsimp only;omega⟩
 ·obtain rfl:n=l.length:=by omega
  rw [List.take_length] at hno
  exact H0 hno w1 hb
theorem zKo {α:Type} {l:List α} {p:α->Bool} (h:l.any p=false):l.filter (λx=>!p x)=l:=by
 rw [List.filter_eq_self]
 intro x hx
 cases hp:p x with
 |false=>rfl
 |true=>rw [List.any_eq_true.2 ⟨x,hx,hp⟩] at h;cases h
theorem zPf {base:Nat} {w:World} {x:Sl} {l:List Pai} (hO:xf base w x l) {fv:Value} {p:Pai->Bool} {C:World->Prop} (hw:C w)
  (hC:∀ W W' row,C W->W.grownBy W' row->(∀ q,row=some q->(Sl.v x).ownBlock=some q)->C W') (hp:∀ W,C W->zGt fv p l W) {k:Sl->World->Prop}
  (H:∀ r w',xf base w' r (l.filter λd=>!p d)->w.grownBy w' (Sl.v x).ownBlock->(∀ q,(Sl.v r).ownBlock=some q->(Sl.v x).ownBlock=some q)->k r w'):
  Cl zA zEN [Sl.v x,fv].toArray w (λe w'=>∃ r0:Sl,e=.returned (Sl.v r0)/\k r0 w'):=by
 have dsm:=hO.small;have dlen:=hO.len
 have hCb:∀ {W W'},C W->Bel W W'->C W':=λh hb=>hC _ _ none h (zo hb none) (λq e=>by cases e)
 refine zEP x _ w k ?_
 unfold zAN
 refine zKP (xf.rd hO) (hp w hw) (λhno w1 b1=>⟨λ_=>?_,λh=>absurd rfl h⟩) λn d hd hpd hno w1 b1=>⟨λh=>by omega,λ_=>?_⟩
 ·exact H x w1 (by rw [zKo hno];exact hO.bel b1) (zo b1 _) λq h=>h
 have hnl:n<l.length:=(List.getElem?_eq_some_iff.1 hd).1
 obtain ⟨ad0,had,-⟩:=(xf.rd hO).cells n d hd
 rw [wr64 (by omega) (by omega)]
 refine ⟨λa c W=>∃ (i j:Nat) (ys:List Pai),a=(i:Int)/\c=(j:Int)/\j<=l.length/\i<j/\xf base W x ys/\ys.length=l.length/\ys.take i=(l.take j).filter (λd=>!p d)/\ys.drop j=l.drop j/\C W/\w.grownBy W (Sl.v x).ownBlock,λ_ c _=>(x.len - c).toNat,
  ⟨n,n+1,l,rfl,by omega,by omega,by omega,hO.bel b1,rfl,?_,rfl,hCb hw b1,zo b1 _⟩,?_⟩
 ·rw [zA0 hd,List.filter_append,zKo hno];simp [hpd]
 rintro a c W ⟨i,j,ys,rfl,rfl,hj,hij,hOW,hyl,htk,hdr,hCW,hg⟩
 unfold Yp
 refine ⟨λhc=>?_,λhc=>?_⟩
 ·obtain ⟨e,he⟩:=getE (l:=l) (n:=j) (by omega)
  have hye:ys[j]?=some e:=by
   have h1:=congrArg (λm=>m[0]?) hdr
   simpa [he] using h1
  have hfs:(l.take (j+1)).filter (λd=>!p d)=(l.take j).filter (λd=>!p d)++(if p e=true then [] else [e]):=by
   rw [zA0 he,List.filter_append];cases hpe:p e<;>simp [hpe]
  refine zDA (xf.rd hOW) YR Zh (by omega) (x:=e) (by simpa using hye) λad hA=>?_
  refine Za YA e rfl hA rfl ?_
  refine zBa zF0 rfl YA (cs:=e.cells) rfl rfl rfl λB W1 b2 hX hB=>?_
  refine Za YA e rfl hX.at rfl ?_
  have hC1:=hCb hCW b2
  refine hp W1 hC1 e (List.mem_of_getElem? he) W1 _ (Bel.refl _) λW2 b3=>⟨λhn=>?_,λhn=>?_⟩
  ·have hpe:p e=false:=by simpa using hn
   have hC2:=hCb hC1 b3
   have hO2:=(hOW.bel b2).bel b3
   refine Za YA e rfl (hX.bel b3).at rfl ?_
   have hR2:=xf.rd hO2
   obtain ⟨y0,hy0⟩:=getE (l:=ys) (n:=i) (by omega)
   have had2:x.a=some ad0:=had
   refine ⟨_,W2,zJB YR Zh had2 (by omega) (by omega),?_⟩
   obtain ⟨W3,hs3,hO3,hg3⟩:=zKg zSw hO2 (i:=i) (by omega) e had2
   refine ⟨W3,by simpa using hs3,?_⟩
   unfold yw
   rw [wr64 (by omega) (by omega),wr64 (by omega) (by omega)]
   refine ⟨⟨i+1,j+1,ys.set i e,by omega,by omega,by omega,by omega,hO3,by simp [hyl],?_,?_,hC _ _ _ hC2 hg3 (λq h=>h),zS (zS hg (zo (b2.trans b3) _)) hg3⟩,by dsimp only;omega⟩
   ·rw [hfs,← htk,List.take_set,zA0 hy0,if_neg (by simp [hpe])]
    rw [List.set_append_right _ _ (by rw [List.length_take];exact Nat.min_le_left _ _),List.length_take,Nat.min_eq_left (by omega)];simp
   ·rw [List.drop_set_of_lt (by omega),← List.drop_drop,← List.drop_drop,hdr]
  ·have hpe:p e=true:=by simpa using hn
   unfold yw
   rw [wr64 (by omega) (by omega)]
   refine ⟨⟨i,j+1,ys,rfl,by omega,by omega,by omega,(hOW.bel b2).bel b3,hyl,?_,?_,hCb hC1 b3,zS hg (zo (b2.trans b3) _)⟩,by dsimp only;omega⟩
   ·rw [hfs,htk,if_pos hpe,List.append_nil]
   ·rw [← List.drop_drop,← List.drop_drop,hdr]
 ·obtain rfl:j=l.length:=by omega
  rw [List.take_length] at htk
  refine zOP hOW (λ_=>rfl) YR Zh zNf rfl rfl (by decide) (by omega) λW' hO' hg' hb'=>?_
  exact H _ W' (by rw [← htk];exact hO') (zS hg hg') λq hq=>by rw [← hb'];exact hq
end Go.Proofs.YtealcoghiaeiiaaGreat.VG
set_option linter.unusedVariables false
set_option linter.unusedSimpArgs false
namespace Go.VB
open Go.RowKit
section
variable {P:Program} {w:World} {α:Type} {c:α->List Value} {n e t bytes base:Nat}
theorem zRU {s:Sl} {xs:List α} {x:α} {vx:Value} (hO:OwnS c n e base w s xs) (hc:∀ x,(c x).length=n) (h1:∀ x,(c x).all (·.oneCell')=true) (hn:0<n)
  (hu:P.underlying t=some (.slice e)) {z:Value} (hi:(P.info? e).map (λi=>(i.zero,i.size,i.bytes))=some (some z,n,bytes)) (hz:z.cells.size=n) (hby:0<bytes)
  (hbs:∀ w,(ze t 1 [(0,vx)].toArray).run P w=.ok (Sl.v ⟨some ⟨w.heap.size,0,none⟩,1,1⟩) (w.alloc (.cells (c x).toArray e)))
  (hbw:base<=w.heap.size) (room:(xs.length+1)*bytes<=140737488355328) {J:World->Prop} (hJ:∀ w',Bel w w'->J w') {k:Sl->World->Prop} {ty:TypeId}
  (H:∀ s' w',OwnS c n e base w' s' (xs++[x])->w.grownBy w' (Sl.v s).ownBlock->(∀ q,(Sl.v s').ownBlock=some q->(Sl.v s).ownBlock=some q∨w.heap.size<=q)->k s' w'):
  opE P Sl.v (ze t 1 [(0,vx)].toArray) w (λy w=>J w/\opE P Sl.v (Builtin.append_ #[t,t] ty [Sl.v s,Sl.v y].toArray) w k):=by
 obtain ⟨y,w1,hr,h2⟩:=zOt (k:=k) (ty:=ty) hO hc h1 hn hu hi hz hby hbs hbw room H
 refine ⟨y,w1,hr,hJ w1 ?_,h2⟩
 have:=(hbs w).symm.trans hr
 injection this with _ e1
 rw [← e1];exact Bel.alloc _ _
end
end Go.VB
namespace Go.Proofs.YtealcoghiaeiiaaGreat.VG
open Go.VB Go.VB.Srt Go.Proofs Go.RowKit
theorem zL9 {l:List Ver} {key:ByteArray}:∀ (i:Nat) (x:Ver),l[i]?=some x->x.Key=key->∃ j y,l[j]?=some y/\y.Key=key/\∀ m z,j=m+1->l[m]?=some z->z.Key≠key
 |0,x,h,hk=>⟨0,x,h,hk,λm z e=>by omega⟩
 |i+1,x,h,hk=>by
  obtain ⟨y,hy⟩:=getV (l:=l) (n:=i) (by have:=(List.getElem?_eq_some_iff.1 h).1;omega)
  by_cases hyk:y.Key=key
  ·exact zL9 i y hy hyk
  ·exact ⟨i+1,x,h,hk,λm z e hz=>by
    obtain rfl:m=i:=by omega
    rw [hy] at hz;cases hz;exact hyk⟩
theorem zPE {fr to key:ByteArray} {l:List Ver} {T:Int} {p:Pai}:p∈one fr to key (sees l key T)↔p.Key=key/\cut (Y3 fr to) (λk=>val l k T) key=some p.Val:=by
 have h0:=zNo fr to key
 show p∈one fr to key (sees l key T)↔p.Key=key/\(if Qr (Y3 fr to) key=true then val l key T else none)=some p.Val
 unfold one
 by_cases ho:zHI fr to key
 ·rw [if_pos ho,if_neg (by rw [h0.1 ho];decide)];simp
 ·have hs:Qr (Y3 fr to) key=true:=by
   cases h:Qr (Y3 fr to) key with
   |true=>rfl
   |false=>exact absurd (h0.2 h) ho
  rw [if_neg ho,if_pos hs]
  unfold val
  cases hse:sees l key T with
  |none=>simp
  |some x=>
   simp only
   cases hg:x.Gone
   ·simp only [Bool.false_eq_true,if_false,List.mem_singleton,Option.some.injEq]
    constructor
    ·rintro rfl;exact ⟨rfl,rfl⟩
    ·rintro ⟨h1,h2⟩;obtain ⟨a,b⟩:=p;simp at h1 h2;rw [h1,h2]
   ·simp
theorem zKm {l:List Ver} (hs:l.Pairwise vlt) (fr to:ByteArray) (T:Int):zAK (cut (Y3 fr to) λk=>val l k T) (zC0 l fr to T l.length):=by
 have hp:∀ i p,p∈pick l fr to T i->∃ x,l[i]?=some x/\(∀ j y,i=j+1->l[j]?=some y->y.Key≠x.Key)/\p.Key=x.Key/\cut (Y3 fr to) (λk=>val l k T) p.Key=some p.Val:=λi p hp=>by
  unfold pick at hp
  cases hx:l[i]? with
  |none=>rw [hx] at hp;cases hp
  |some x=>
   rw [hx] at hp
   simp only at hp
   split at hp
   ·cases hp
   ·rename_i hn
    obtain ⟨h1,h2⟩:=zPE.1 hp
    exact ⟨x,rfl,λj y e hy hk=>hn ⟨j,y,e,hy,hk⟩,h1,by rw [h1];exact h2⟩
 refine ⟨?_,λp=>?_⟩
 ·unfold zC0
  rw [Rise,List.pairwise_flatMap]
  refine ⟨λi _=>?_,?_⟩
  ·have:=zM4 l fr to T i
   match pick l fr to T i,this with
   |[],_=>simp
   |[a],_=>simp
  ·refine List.pairwise_lt_range.imp λ{i j} hij p hpi q hqj=>?_
   obtain ⟨x,hx,hx1,hx2,_⟩:=hp i p hpi
   obtain ⟨y,hy,hy1,hy2,_⟩:=hp j q hqj
   rw [hx2,hy2]
   refine zOC hs hij hx hy λe=>?_
   obtain ⟨z,hz⟩:=getV (l:=l) (n:=j - 1) (by have:=(List.getElem?_eq_some_iff.1 hy).1;omega)
   have hzy:=hy1 (j - 1) z (by omega) hz
   rcases Nat.lt_or_ge i (j - 1) with h|h
   ·have h1:=zMW hs h hx hz
    have h2:=zMW hs (show j - 1<j by omega) hz hy
    rw [← e] at h2 hzy
    exact h1 (zEe h2 (λe'=>hzy e'.symm))
   ·obtain rfl:i=j - 1:=by omega
    rw [hx] at hz;cases hz;exact hzy e
 ·constructor
  ·intro h
   obtain ⟨i,_,hi⟩:=List.mem_flatMap.1 h
   obtain ⟨x,_,_,_,h4⟩:=hp i p hi
   exact h4
  ·intro h
   have hsome:∃ x,sees l p.Key T=some x:=by
    have h':(if Qr (Y3 fr to) p.Key=true then val l p.Key T else none)=some p.Val:=h
    split at h'
    ·unfold val at h'
     cases hse:sees l p.Key T with
     |none=>rw [hse] at h';cases h'
     |some x=>exact ⟨x,rfl⟩
    ·cases h'
   obtain ⟨x,hx⟩:=hsome
   obtain ⟨h1,h2,_⟩:=zHi hx
   obtain ⟨i,hi⟩:=List.getElem?_of_mem h1
   obtain ⟨j,y,hj,hyk,hfirst⟩:=zL9 i x hi h2
   refine List.mem_flatMap.2 ⟨j,List.mem_range.2 (List.getElem?_eq_some_iff.1 hj).1,?_⟩
   unfold pick
   rw [hj]
   simp only
   rw [if_neg]
   ·exact zPE.2 ⟨hyk.symm,by rw [hyk];exact h⟩
   ·rintro ⟨m,z,hm,hz,hzk⟩
    exact hfirst m z hm hz (hzk.trans hyk)
def zG0 (x:Spn) (y:Wri):Option Pai:=if y.Gone=false/\Qr x y.Key=true then some ⟨y.Key,y.Val⟩ else none
def kltP (a b:Pai):Bool:=sLt a.Key b.Key
theorem zPt:Srt.SWO kltP where
 irr x:=by
  cases h:kltP x x with
  |false=>rfl
  |true=>exact absurd h (Z6 x.Key)
 neg x y z h:=by
  unfold kltP at*
  by_cases h1:sLt x.Key y.Key=true
  ·exact .inl h1
  ·right
   by_cases h2:x.Key=y.Key
   ·rw [← h2];exact h
   ·exact zHs (zEe h1 h2) h
 asy x y h:=by
  cases h1:kltP y x with
  |false=>rfl
  |true=>exact absurd h1 (zIB h)
theorem zQM (a b:Pai) (w:World) {k:Int->World->Prop} (H:∀ w',Bel w w'->k (cmpS a.Key b.Key) w'):Cl zA zDs [zM.v a,zM.v b].toArray w (λe w'=>∃ r0:Int,e=.returned (.int .i64 r0)/\k r0 w'):=by
 refine zIP a b w k ?_
 unfold zEQ
 refine zAo (cs:=a.cells) rfl λB w1 b1 hA _=>?_
 refine zAo (cs:=b.cells) rfl λC w2 b2 hB _=>?_
 refine yA Y4 zh (hA.bel b2).at a.Key rfl ?_
 refine yA Y4 zh hB.at b.Key rfl ?_
 exact zI7 a.Key b.Key w2 (H w2 (b1.trans b2))
theorem zNz:SoCmpFunc_api_Pair.Cmps (.func (.func zDs) #[] #[]) kltP:=λw x y=>
 ⟨cmpS x.Key y.Key,⟨zDs,[],[],rfl,zSu,λw' _=>(zQM x y w' (k:=λr W=>r=cmpS x.Key y.Key/\Bel w' W) λW hb=>⟨rfl,hb⟩).mono λe W ⟨r,he,hr,hb⟩=>⟨by rw [he,hr],hb⟩⟩,by rw [zMg];exact Iff.rfl⟩
theorem zP2 (p:Pai) {w:World} {B tb wb:Nat} {rs:Sl} {t:Tx} (hB:Row w B [.pointer (ptrA tb)] zFk) (hT:Row w tb [.int .u64 t.began,Sl.v rs,.map (some wb)] zBV) (hM:zAD zZ zJ.v w wb t.wr)
  {k:Bool->World->Prop} (H:∀ w',Bel w w'->k (t.wr p.Key).isSome w'):Cl zA zF7 [zM.v p,.pointer (ptrA B)].toArray w (λe w'=>∃ r0:Bool,e=.returned (.bool r0)/\k r0 w'):=by
 refine zIT p (ptrA B) w k ?_
 unfold zEE
 refine zAo (cs:=p.cells) rfl λX w1 b1 hX _=>?_
 refine ⟨Bel w1,λu bu=>⟨bu,?_⟩⟩
 refine zFW Y4 ?_
 refine zC3 zBm (ptrA tb) (λW hW=>((hB.bel b1).bel hW).cell) ⟨trivial,?_⟩
 refine zFW zAc ?_
 refine zC3 Qs (some wb) (λW hW=>((hT.bel b1).bel hW).at.fld rfl) ?_
 refine zC3 zh p.Key (λW hW=>(hX.bel hW).at.fld rfl) ?_
 refine zNc (z:=zNA) (λW hW=>(hM.bel b1).bel hW) zJD Yf zIA p.Key ?_
 refine zFL zBl λC w2 b2 hZ hC=>?_
 refine ⟨bu.trans b2,?_⟩
 refine zI1 QR hZ rfl rfl rfl λw3 hZ3 g3=>?_
 have b13:Bel w1 w3:=(bu.trans b2).grown g3 λr hr=>by cases hr;have:=bu.le;omega
 exact ⟨b13,H w3 (b1.trans b13)⟩
theorem zPH {s:St} (hI:Inv s) {n:Int} {t:Tx} (ht:s.tx n=some t) (fr to:ByteArray) {ks:List ByteArray} (hd:Doms t.wr ks) {ys:List Pai}
  (hp:ys.Perm ((zC0 s.l fr to t.began s.l.length).filter (λd=>!(t.wr d.Key).isSome)++(ks.filterMap t.wr).filterMap (zG0 (Y3 fr to)))) (hl:ys.Pairwise (λx y=>Le kltP x y)):
  zAK (cut (Y3 fr to) (zHH s t)) ys:=by
 have hk:=(hI.txok n t ht).keyed
 obtain ⟨s1,s2⟩:=zKm hI.good.sorted fr to t.began
 generalize zC0 s.l fr to t.began s.l.length=L at hp s1 s2
 have m2:∀ p,p∈(ks.filterMap t.wr).filterMap (zG0 (Y3 fr to))↔∃ x,t.wr p.Key=some x/\x.Gone=false/\Qr (Y3 fr to) p.Key=true/\x.Val=p.Val:=λp=>by
  rw [List.mem_filterMap]
  constructor
  ·rintro ⟨x,hx,hpx⟩
   obtain ⟨key,_,hkx⟩:=List.mem_filterMap.1 hx
   unfold zG0 at hpx
   split at hpx
   ·rename_i h;cases hpx
    have:=hk _ _ hkx
    subst this
    exact ⟨x,hkx,h.1,h.2,rfl⟩
   ·cases hpx
  ·rintro ⟨x,h1,h2,h3,h4⟩
   have hxk:=hk _ _ h1
   refine ⟨x,List.mem_filterMap.2 ⟨p.Key,(hd.2 _).2 ⟨x,h1⟩,h1⟩,?_⟩
   unfold zG0
   rw [if_pos ⟨h2,by rw [hxk];exact h3⟩,hxk,h4]
 have hmem:∀ p,p∈ys↔cut (Y3 fr to) (zHH s t) p.Key=some p.Val:=λp=>by
  rw [hp.mem_iff,List.mem_append,List.mem_filter,s2,m2]
  unfold cut zHH ovl
  by_cases hsp:Qr (Y3 fr to) p.Key=true
  ·rw [if_pos hsp,if_pos hsp]
   cases hw:t.wr p.Key with
   |none=>simp
   |some x=>
    simp only [Option.isSome_some,Bool.not_true,Bool.false_eq_true,and_false,false_or,Option.some.injEq]
    constructor
    ·rintro ⟨y,rfl,h1,_,h2⟩;rw [if_neg (by rw [h1];decide),h2]
    ·intro h
     split at h
     ·cases h
     ·rename_i hg
      exact ⟨x,rfl,by simpa using hg,hsp,Option.some.inj h⟩
  ·rw [if_neg hsp,if_neg hsp]
   simp only [reduceCtorEq,false_and,false_or,iff_false]
   rintro ⟨x,_,_,h3,_⟩;exact hsp h3
 have hnd:(L.filter (λd=>!(t.wr d.Key).isSome)++(ks.filterMap t.wr).filterMap (zG0 (Y3 fr to))).Pairwise (λx y:Pai=>x.Key≠y.Key):=by
  refine List.pairwise_append.2 ⟨(s1.sublist List.filter_sublist).imp λ{a b} h e=>by have h':sLt a.Key b.Key=true:=h;rw [e] at h';exact Z6 _ h',?_,λx hx y hy e=>?_⟩
  ·rw [List.pairwise_filterMap,List.pairwise_filterMap]
   refine hd.1.imp λ{a b} hab x hx y hy p hpx q hqy e=>hab ?_
   unfold zG0 at hpx hqy
   split at hpx
   ·split at hqy
    ·cases hpx;cases hqy
     have:=hk a x hx;have:=hk b y hy
     simp_all
    ·cases hqy
   ·cases hpx
  ·obtain ⟨_,h1⟩:=List.mem_filter.1 hx
   obtain ⟨z,h2,_⟩:=(m2 y).1 hy
   rw [e,h2] at h1;simp at h1
 have hnd':ys.Pairwise (λx y=>x.Key≠y.Key):=(hp.pairwise_iff (λ{x y} h=>h.symm)).2 hnd
 refine ⟨(hl.and hnd').imp λ{x y} h12=>?_,hmem⟩
 cases h:sLt x.Key y.Key with
 |true=>rfl
 |false=>
  have h3:sLt y.Key x.Key=true:=zEe (by rw [h];decide) h12.2
  have h4:sLt y.Key x.Key=false:=h12.1
  rw [h3] at h4;cases h4
end Go.Proofs.YtealcoghiaeiiaaGreat.VG
