/- Texts by which the law's calls are walked (part 9): rules, printed conditions, contracts; no condition. -/
import Derived.TacticsIn
import Derived.TacticsInMore
import Derived.Deep.LoopGhost
import Derived.Sort.QuietThIn
import Derived.RangeFuncCalls
import Derived.RangeFuncNested
import Derived.RangeFuncLeaves
import Derived.WalkKit
import Derived.StillTail
import Derived.Test.YtealcoghiaeiiaaGreatProg
import Derived.KernelRfl
import Derived.Deep.WholeRow
import Derived.Laws.StructEq
import Derived.MapFrom
import Derived.Laws.CopyRow
import Derived.Maps.RangeRun
import Derived.Sort.Walk0
import Derived.RangeFuncBound
import Derived.Test.YtealcoghiaeiiaaGreatPkTxnBlindH
open Go.Proofs.Tryz renaming prog → zA
open Go.IntKind renaming wrap → zB
open Go.Value renaming pointer → zC, int → zV, string → zY, bool → Qq
open Go.Instr renaming loadAt → zD, storeAt → zK, indexAt → zF, fieldAt → zO, alloc → zk, build → QC, buildSlice → zc
open Nat renaming le_refl → zU, le_trans → ze, lt_of_lt_of_le → xf
open List renaming length_append → zy
set_option linter.unusedVariables false
set_option linter.unusedSimpArgs false
namespace Go.Proofs.YtealcoghiaeiiaaGreat.VG
open Go.VB Go.Proofs Go.RowKit
theorem zNY (w:Wri) (o:List Pai × Bool) (p:Pai):(zCF w o p).1.length<=o.1.length+2:=by
 unfold zCF
 simp only [zy]
 split<;>split<;>simp
theorem zMO {α β:Type} {l:List α} {n:Nat} {x:α} (h:l[n]?=some x) (f:β->α->β) (o:β):(l.take (n+1)).foldl f o=f ((l.take n).foldl f o) x:=by
 rw [zB9 h,List.foldl_append];rfl
theorem zNV {base:Nat} {w0 w:World} {s y:Sl} {l m:List Pai} {k:Sl->World->Prop} (hO:YJ base w s l) (hy:zHn w y m) (hB:Bel w0 w) (hb:w0.heap.size<=base) (hbw:base<=w.heap.size) (room:l.length+m.length<=4398046511104)
  (H:∀ s' w',YJ base w' s' (l++m)->Bel w0 w'->w.grownBy w' (Sl.v s).ownBlock->k s' w'):
  opE zA Sl.v (Builtin.append_ #[Q6,Q6] Q6 [Sl.v s,Sl.v y].toArray) w k:=
 zKg hO hy (λ_=>rfl) (λ_=>rfl) (by decide) Yq zHA rfl (by decide) hB hb hbw (by omega) H
theorem zOn {w:World} {x0:Sl} {l:List Pai} (h:zHn w x0 l) (x:Wri) (hl:l.length<=1000000000) {k:Sl->World->Prop} (H:∀ r w',YJ w.heap.size w' r (zI0 l x)->Bel w w'->k r w'):
  Cl zA zH8 [Sl.v x0,zI.v x].toArray w (λe w'=>∃ r0:Sl,e=.returned (Sl.v r0)/\k r0 w'):=by
 have hbig:=h.big;have hcap:=h.cap;have hlen:=h.len
 refine zH5 x0 x w k ?_
 unfold zEn
 refine zA7 (cs:=x.cells) rfl λB w1 b1 hX hB=>?_
 have s1:=b1.le
 have hBl:=hX.lt
 refine yy zBH zDe hX.at x.Gone rfl ?_
 refine ⟨λa c i W=>∃ n:Nat,i=(n:Int)/\n<=l.length/\Bel w1 W/\YJ w1.heap.size W a ((l.take n).foldl (zCF x) ([],x.Gone)).1/\c=((l.take n).foldl (zCF x) ([],x.Gone)).2/\((l.take n).foldl (zCF x) ([],x.Gone)).1.length<=2*n,λ_ _ i _=>(x0.len - i).toNat,
  ⟨0,rfl,by omega,Bel.refl _,OwnS.nil _ _ _ _ _,rfl,by simp⟩,?_⟩
 rintro a c i W ⟨n,rfl,hn,hb,hO,rfl,hol⟩
 unfold zBe
 have app:∀ (W1:World) (s:Sl) (o:List Pai) (y:Pai) (k:Sl->World->Prop),Bel w1 W1->YJ w1.heap.size W1 s o->o.length<=2000000002->(∀ s' W2,YJ w1.heap.size W2 s' (o++[y])->Bel w1 W2->W1.grownBy W2 (Sl.v s).ownBlock->k s' W2)->
   opE zA Sl.v (zc Q6 1 [(0,zL.v y)].toArray) W1 (λy w=>opE zA Sl.v (Builtin.append_ #[Q6,Q6] Q6 [Sl.v s,Sl.v y].toArray) w k):=
  λW1 s o y k hb1 hO1 hl1 hk=>zJ6 (w0:=w1) hO1 hb1 (zU _) hb1.le (by omega) λs' W2 h1 h2 h3=>hk s' W2 h1 h2 h3
 generalize hgo:(l.take n).foldl (zCF x) ([],x.Gone)=o at hO hol
 refine ⟨λhc=>?_,λhc=>?_⟩
 ·obtain ⟨p,hp⟩:=getE (l:=l) (n:=n) (by omega)
  have hfold:(l.take (n+1)).foldl (zCF x) ([],x.Gone)=zCF x o p:=by rw [zMO hp,hgo]
  have hsl:=zNY x o p
  refine zDR ((h.bel b1).bel hb) Yq zAK (by omega) (x:=p) (by simpa using hp) λad hA=>?_
  refine zBI ZI p rfl hA rfl ?_
  refine zCT zG4 rfl ZI (cs:=p.cells) rfl rfl rfl λC W1 b2 hP hC=>?_
  have hb1:=hb.trans b2
  have hX1:=hX.bel hb1
  have hO1:=hO.bel b2
  refine yy Z2 zn hP.at p.Key rfl ?_
  refine yy yj zn hX1.at x.Key rfl ?_
  have J3:∀ (W2:World) (s:Sl) (o1:List Pai) (c:Bool),Bel w1 W2->Row W2 C p.cells ZU->YJ w1.heap.size W2 s o1->o1.length<=2*n+1->zCF x o p=(o1++(if p.Key=x.Key then [] else [p]),c)->
    zAH (ptrA B) (n:Int) (λa' c' i' w'=>(∃ n:Nat,i'=(n:Int)/\n<=l.length/\Bel w1 w'/\YJ w1.heap.size w' a' ((l.take n).foldl (zCF x) ([],x.Gone)).1/\c'=((l.take n).foldl (zCF x) ([],x.Gone)).2/\((l.take n).foldl (zCF x) ([],x.Gone)).1.length<=2*n)/\(x0.len - i').toNat<(x0.len - (n:Int)).toNat) (ptrA C) s c W2:=by
   intro W2 s o1 c hb2 hP2 hO2 hl2 hst
   have hX2:=hX.bel hb2
   unfold zAH
   refine yy Z2 zn hP2.at p.Key rfl ?_
   refine yy yj zn hX2.at x.Key rfl ⟨λhne=>?_,λhe=>?_⟩
   ·rw [if_neg hne] at hst
    refine zBI ZI p rfl hP2.at rfl ?_
    refine app W2 s o1 p _ hb2 hO2 (by omega) λs' W3 hO3 hb3 _=>?_
    unfold zAI
    rw [wr64 (by omega) (by omega)]
    refine ⟨⟨n+1,by omega,by omega,hb3,?_,?_,?_⟩,by omega⟩
    ·rw [hfold,hst];exact hO3
    ·rw [hfold,hst]
    ·rw [hfold];omega
   ·have he:=Classical.not_not.1 he
    rw [if_pos he,List.append_nil] at hst
    unfold zAI
    rw [wr64 (by omega) (by omega)]
    refine ⟨⟨n+1,by omega,by omega,hb2,?_,?_,?_⟩,by omega⟩
    ·rw [hfold,hst];exact hO2
    ·rw [hfold,hst]
    ·rw [hfold];omega
  have J4:∀ (c:Bool),(c=true->sLt p.Key x.Key=false/\o.2=false)->(c=false->¬ (sLt p.Key x.Key=false/\o.2=false))->zAJ (ptrA B) a o.2 (n:Int) (λa' c' i' w'=>(∃ n:Nat,i'=(n:Int)/\n<=l.length/\Bel w1 w'/\YJ w1.heap.size w' a' ((l.take n).foldl (zCF x) ([],x.Gone)).1/\c'=((l.take n).foldl (zCF x) ([],x.Gone)).2/\((l.take n).foldl (zCF x) ([],x.Gone)).1.length<=2*n)/\(x0.len - i').toNat<(x0.len - (n:Int)).toNat) (ptrA C) c W1:=by
   intro c hc1 hc0
   unfold zAJ
   refine ⟨λht=>?_,λhf=>?_⟩
   ·obtain ⟨h1,h2⟩:=hc1 ht
    refine yy yj zn hX1.at x.Key rfl ?_
    refine yy zAE zn hX1.at x.Val rfl ?_
    refine ⟨⟨x.Key,x.Val⟩,W1,by kernel_rfl,?_⟩
    refine app W1 a o.1 ⟨x.Key,x.Val⟩ _ hb1 hO1 (by omega) λs' W2 hO2 hb2 hg2=>?_
    refine J3 W2 s' (o.1++[⟨x.Key,x.Val⟩]) true hb2 (hP.grown hg2 λe=>by have:=hO.lt e;omega) hO2 (by rw [zy,List.length_singleton];omega) ?_
    unfold zCF
    rw [if_pos ⟨h1,h2⟩,h1]
    simp
   ·have h1:=hc0 hf
    refine J3 W1 a o.1 o.2 hb1 hP hO1 (by omega) ?_
    unfold zCF
    rw [if_neg h1]
    cases h2:sLt p.Key x.Key with
    |true=>simp
    |false=>cases h3:o.2 with
     |true=>simp
     |false=>exact absurd ⟨h2,h3⟩ h1
  refine ⟨λhlt=>J4 _ (λh1=>⟨by simpa using hlt,by simpa using h1⟩) λh1 h2=>(by rw [h2.2] at h1;cases h1),λhlt=>J4 false (λh=>(nomatch h)) λ_ h2=>(by rw [h2.1] at hlt;cases hlt)⟩
 ·obtain rfl:n=l.length:=by omega
  rw [List.take_length] at hgo
  have hend:zI0 l x=end8 x o:=by unfold zI0;rw [hgo]
  rw [hend] at H
  unfold end8 at H
  have hX1:=hX.bel hb
  unfold zBB
  refine ⟨λh1=>?_,λh1=>?_⟩
  ·have h2:o.2=false:=by simpa using h1
   rw [if_neg (by simp [h2])] at H
   refine yy yj zn hX1.at x.Key rfl ?_
   refine yy zAE zn hX1.at x.Val rfl ?_
   refine ⟨⟨x.Key,x.Val⟩,W,by kernel_rfl,?_⟩
   refine app W a o.1 ⟨x.Key,x.Val⟩ _ hb hO (by omega) λs' W2 hO2 hb2 _=>H s' W2 (hO2.low (by omega)) (b1.trans hb2)
  ·have h2:o.2=true:=by simpa using h1
   rw [if_pos h2] at H
   exact H a W (hO.low (by omega)) (b1.trans hb)
theorem zPu {w:World} {x0 x1:Sl} {l:List Pai} {ws:List Wri} (h:zHn w x0 l) (h':zHs w x1 ws) (hl:l.length+ws.length<=1000000000) {k:Sl->World->Prop} (H:∀ r w',YJ w.heap.size w' r (allL l ws)->Bel w w'->k r w'):
  Cl zA zII [Sl.v x0,Sl.v x1].toArray w (λe w'=>∃ r0:Sl,e=.returned (Sl.v r0)/\k r0 w'):=by
 have hbig:=h'.big;have hcap:=h'.cap;have hlen:=h'.len
 refine zIJ x0 x1 w k ?_
 unfold zFK
 have b1:=Bel.alloc w (.cells #[] ZU)
 refine ⟨_,_,zHX w,?_⟩
 refine zNV (w0:=w) (OwnS.lit0 (zU _)) (h.bel b1) b1 (zU _) (by rw [size_alloc'];omega) (by simp;omega) λr w2 hO b2 _=>?_
 rw [List.nil_append] at hO
 refine ⟨λa i W=>∃ n:Nat,i=(n:Int)/\n<=ws.length/\Bel w W/\YJ w.heap.size W a (allL l (ws.take n))/\(allL l (ws.take n)).length<=l.length+n,λ_ i _=>(x1.len - i).toNat,
  ⟨0,rfl,by omega,b2,hO,by simp [allL]⟩,?_⟩
 rintro a i W ⟨n,rfl,hn,hb,hO,hol⟩
 unfold zBq
 refine ⟨λhc=>?_,λhc=>?_⟩
 ·obtain ⟨x,hx⟩:=getE (l:=ws) (n:=n) (by omega)
  have hfold:allL l (ws.take (n+1))=zI0 (allL l (ws.take n)) x:=by unfold allL;rw [zB9 hx,List.foldl_append];rfl
  refine zDR (h'.bel hb) zAR zBX (by omega) (x:=x) (by simpa using hx) λad hA=>?_
  refine zBI y6 x rfl hA rfl ?_
  refine zCT zAl rfl y6 (cs:=x.cells) rfl rfl rfl λC W1 b3 hX hC=>?_
  refine zBI y6 x rfl hX.at rfl ?_
  refine zOn (YJ.rd (hO.bel b3)) x (by omega) λr' W2 hO2 b4=>?_
  have hwl:=zNs (allL l (ws.take n)) x
  have hsz:=(hb.trans b3).le
  rw [wr64 (by omega) (by omega)]
  exact ⟨⟨n+1,by omega,by omega,(hb.trans b3).trans b4,by rw [hfold];exact hO2.low hsz,by rw [hfold];omega⟩,by dsimp only;omega⟩
 ·obtain rfl:n=ws.length:=by omega
  rw [List.take_length] at hO
  exact H a W hO hb
end Go.Proofs.YtealcoghiaeiiaaGreat.VG
set_option linter.unusedVariables false
set_option linter.unusedSimpArgs false
namespace Go.Proofs.YtealcoghiaeiiaaGreat.VG
open Go.VB Go.Proofs Go.RowKit
open Classical in
noncomputable def newE (l:List Pai):Int:=if 4096<l.length then 3 else if l.any zHC=true then 4 else if ¬ zF6 l l.length then 2 else 0
theorem zRf {w:World} {x:Sl} {l:List Pai} (hd:zHn w x l) {k:Option Addr->Int->World->Prop} (H0:∀ w',newE l≠0->Bel w w'->k none (newE l) w')
  (H1:∀ b ρ w',newE l=0->Inv (newS l)->zAh (λk=>val (newS l).l k 1) l->Bel w w'->Mgr ρ w' b (newS l)->(∀ k,k<w.heap.size->ρ k=none)->k (ptrA b) 0 w'):
  Cl zA zJp [Sl.v x].toArray w (λe w'=>∃ (r0:Option Addr) (r1:Int),e=.returned (.tuple [.pointer r0,.int .i64 r1].toArray)/\k r0 r1 w'):=by
 refine zPH hd (λh=>?_) (λh1 h2 w' hb=>?_) (λh1 h2 h3 w' hb=>?_) λh1 h2 h3 b ρ w' hb hM hρ=>?_
 ·have e:newE l=3:=by unfold newE;rw [if_pos h]
  rw [e] at H0;exact H0 w (by decide) (Bel.refl _)
 ·have e:newE l=4:=by unfold newE;rw [if_neg (by omega),if_pos h2]
  rw [e] at H0;exact H0 w' (by decide) hb
 ·have e:newE l=2:=by unfold newE;rw [if_neg (by omega),if_neg (by simp [h2]),if_pos h3]
  rw [e] at H0;exact H0 w' (by decide) hb
 ·have e:newE l=0:=by unfold newE;rw [if_neg (by omega),if_neg (by simp [h2]),if_neg (by simp [h3])]
  exact H1 b ρ w' e (zPD h1 h2 h3) (zN8 h3) hb hM hρ
theorem zOl {l:List Pai} (h:newE l=0):l.length<=4096:=by
 unfold newE at h
 split at h
 ·exact absurd h (by decide)
 ·omega
structure Two (w:World) (ba bb:Nat) (sa sb:St) (ρa ρb:Own) (W:World):Prop where
 ma:Mgr ρa W ba sa
 mb:Mgr ρb W bb sb
 dis:∀ k,ρa k≠none->ρb k=none
 bel:Bel w W
 la:∀ k,k<w.heap.size->ρa k=none
 lb:∀ k,k<w.heap.size->ρb k=none
section
variable {w W W':World} {ba bb:Nat} {sa sb s':St} {ρa ρb ρ':Own}
theorem Two.swap (h:Two w ba bb sa sb ρa ρb W):Two w bb ba sb sa ρb ρa W:=⟨h.mb,h.ma,λk hk=>Classical.byContradiction λh1=>hk (h.dis k h1),h.bel,h.lb,h.la⟩
theorem Two.a (h:Two w ba bb sa sb ρa ρb W) (hM:Mgr ρ' W' ba s') (hE:Ext ρa W ρ' W'):Two w ba bb s' sb ρ' ρb W' where
 ma:=hM
 mb:=h.mb.out hE.out λk hk=>h.dis k hk
 dis k hk:=by
  by_cases hk1:k<W.heap.size
  ·exact h.dis k (by rw [← hE.same k hk1];exact hk)
  ·cases hb:ρb k with
   |none=>rfl
   |some r=>have:=h.mb.lt k (by rw [hb];simp);omega
 bel:=hE.base h.bel h.la
 la:=hE.clear h.bel.le h.la
 lb:=h.lb
theorem Two.b (h:Two w ba bb sa sb ρa ρb W) (hM:Mgr ρ' W' bb s') (hE:Ext ρb W ρ' W'):Two w ba bb sa s' ρa ρ' W':=(h.swap.a hM hE).swap
theorem Two.more (h:Two w ba bb sa sb ρa ρb W) (hb:Bel W W'):Two w ba bb sa sb ρa ρb W':=⟨h.ma.bel hb,h.mb.bel hb,h.dis,h.bel.trans hb,h.la,h.lb⟩
theorem Two.new (h:Two w ba bb sa sb ρa ρb W) {k:Nat} (hk:W.heap.size<=k):ρa k=none/\ρb k=none:=by
 constructor
 ·cases hb:ρa k with
  |none=>rfl
  |some r=>have:=h.ma.lt k (by rw [hb];simp);omega
 ·cases hb:ρb k with
  |none=>rfl
  |some r=>have:=h.mb.lt k (by rw [hb];simp);omega
end
theorem zJI.keep {w w':World} {x:Zm} {a:Ans} (h:zJI w x a) (hp:∀ q,(Sl.v x.Pairs).ownBlock=some q->w'.heap[q]?=w.heap[q]?) (hd:∀ q,(Sl.v x.Done).ownBlock=some q->w'.heap[q]?=w.heap[q]?):zJI w' x a:=
 ⟨h.1,h.2.1,h.2.2.1,h.2.2.2.1,h.2.2.2.2.1.keep hp,h.2.2.2.2.2.1.keep hd,h.2.2.2.2.2.2⟩
theorem zKq.ext {base:Nat} {ρ ρb ρ':Own} {W W':World} {y:Zm} {a:Ans} (h:zKq base ρ W y a) (hE:Ext ρb W ρ' W') (hn:∀ k,base<=k->ρb k=none):zJI W' y a:=
 h.ans.keep (λq hq=>hE.blk (h.pairs.lt hq) (hn q (h.pairs.lo hq))) (λq hq=>hE.blk (h.done.lt hq) (hn q (h.done.lo hq)))
theorem zNx {s:St} (hI:Inv s) (hn:s.now+1<=maxT) {n:Int} {t:Tx} (ht:s.tx n=some t) {ys:List Wri} (hS:zD0 t.wr ys):
  (s.l.any (conf t)=true->(zBp s n).2.why=10/\(zBp s n).2.done=[])/\(s.l.any (conf t)=false->(zBp s n).2.why=3∨(zBp s n).2.why=0/\(zBp s n).2.done=ys):=by
 unfold zBp
 rw [zB1 ht]
 unfold zGJ
 refine ⟨λhc=>by rw [if_pos hc];exact ⟨rfl,rfl⟩,λhc=>?_⟩
 rw [if_neg (by simp [hc]),zFv hS]
 by_cases he:∀ k,t.wr k=none
 ·rw [if_pos he]
  refine .inr ⟨rfl,?_⟩
  cases ys with
  |nil=>rfl
  |cons y ys=>have:=(hS.2 y).1 (by simp);rw [he] at this;cases this
 rw [if_neg he]
 have hw:=zPf hI ht hS hn
 by_cases hp:pwhy s.l s.low ys (s.now+1)=0
 ·have hv:vput s.l s.low ys (s.now+1)=(putL s.l (s.now+1) ys,s.low,0):=by unfold vput;rw [if_neg (by simp [hp])]
  rw [hv,if_neg (by simp)]
  exact .inr ⟨rfl,rfl⟩
 ·have hv:vput s.l s.low ys (s.now+1)=([],0,pwhy s.l s.low ys (s.now+1)):=by unfold vput;rw [if_pos hp]
  rw [hv,if_pos hp]
  left
  show pwhy s.l s.low ys (s.now+1)=3
  rw [hw] at hp ⊢
  split
  ·rfl
  ·rename_i h;rw [if_neg h] at hp;exact absurd rfl hp
end Go.Proofs.YtealcoghiaeiiaaGreat.VG
set_option linter.unusedVariables false
set_option linter.unusedSimpArgs false
namespace Go.Proofs.YtealcoghiaeiiaaGreat.VG
open Go.VB Go.Proofs Go.RowKit
theorem zOL {l:List Ver} {low:Int} (hg:zCM l low) (T:Int):zAh (λk=>val l k T) (zCQ l noB noB T l.length):=by
 have h:=zJH hg.sorted noB noB T
 rw [zMt] at h;exact h
theorem zNb {l:List Ver} {low:Int} (hg:zCM l low) {T:Int} {ys:List Pai} (h:zAh (λk=>val l k T) ys):ys.length<=l.length:=by
 rw [h.one (zOL hg T)];exact zIR l noB noB T l.length
theorem zLi {s s':St} {a:Ans} {x:Y5} (h:Inv s) (hn:s.now+1<=maxT) (e:Eff s x s' a):
  (∀ key,val s'.l key s'.now=val s.l key s.now)/\a.done=[]∨∃ t,x.Kind=6/\s.tx x.Tx=some t/\s.l.any (conf t)=false/\a.why=0/\zD0 t.wr a.done/\∀ key,val s'.l key s'.now=ovl t.wr (λk=>val s.l k s.now) key:=by
 have ho:∀ (u:St) n,(zAc u n).now=u.now:=λu n=>by unfold zAc zIn;split<;>rfl
 have hov:∀ n key,val (zAc s n).l key (zAc s n).now=val s.l key s.now:=λn key=>by
  rw [ho];exact zLo h (by omega) _ (by have:=(zGd h (by omega) n).lonow;rw [ho] at this;exact this) key
 cases e with
 |no e _=>exact .inl ⟨λ_=>rfl,rfl⟩
 |beg _ hc=>exact .inl ⟨λ_=>rfl,rfl⟩
 |get t _ ht _ hl=>exact .inl ⟨λ_=>rfl,rfl⟩
 |scan t _ ht hl=>exact .inl ⟨λ_=>rfl,rfl⟩
 |write t y hk ht hy hl=>exact .inl ⟨λ_=>rfl,rfl⟩
 |abort t _ ht=>exact .inl ⟨hov _,rfl⟩
 |fail t e _ ht _=>exact .inl ⟨hov _,rfl⟩
 |empty t _ ht _ _=>exact .inl ⟨hov _,rfl⟩
 |comm t ys k ht hc hS _ hp=>
  refine .inr ⟨t,k,ht,hc,rfl,hS,λkey=>?_⟩
  have hi:=zNE h hp
  rw [ho,zLo hi hn _ (by have:=(zGd hi hn x.Tx).lonow;rw [ho] at this;exact this) key]
  exact zLZ hp h.past hS (h.txok _ t ht).keyed key
theorem zPo {s s':St} {a:Ans} {x:Y5} (h:Inv s) (hn:s.now+1<=maxT) (e:Eff s x s' a) {cur:List Pai} (hc:zAh (λk=>val s.l k s.now) cur):zAh (λk=>val s'.l k s'.now) (allL cur a.done)/\(a.why≠0->a.done=[])/\a.done.length<=256:=by
 have hinv:=zKu h hn e
 rcases zLi h hn e with ⟨h1,h2⟩|⟨t,h1,h2,h3,h4,h5,h6⟩
 ·rw [h2]
  refine ⟨?_,λ_=>rfl,by simp⟩
  show zAh _ cur
  rw [show (λk=>val s'.l k s'.now)=λk=>val s.l k s.now from funext h1];exact hc
 ·refine ⟨?_,λhw=>absurd h4 hw,zPm h h2 h5⟩
  rw [show (λk=>val s'.l k s'.now)=ovl t.wr (λk=>val s.l k s.now) from funext h6,← zO0 h5 (h.txok _ t h2).keyed]
  exact zKc _ hc
theorem zMT (s:St) (n:Int):doS s ⟨6,n,noB,noB,noB⟩=zBp s n:=by unfold doS;simp
theorem zPt (s:St) (n:Int) (key val:ByteArray):doS s ⟨4,n,key,noB,val⟩=zEo s n ⟨key,val,false⟩:=by unfold doS;simp
theorem zPb (s:St) (n:Int) (key:ByteArray):doS s ⟨5,n,key,noB,noB⟩=zEo s n ⟨key,noB,true⟩:=by unfold doS;simp
theorem _root_.Go.VB.OwnS.ext {α:Type} {c:α->List Value} {n e base:Nat} {ρ ρ':Own} {W W':World} {s:Sl} {xs:List α} (h:OwnS c n e base W s xs) (hρ:∀ q,(Sl.v s).ownBlock=some q->ρ q=none) (hE:Ext ρ W ρ' W'):
  OwnS c n e base W' s xs/\∀ q,(Sl.v s).ownBlock=some q->ρ' q=none:=
 ⟨h.keep λq hq=>hE.blk (h.lt hq) (hρ q hq),λq hq=>(hE.same q (h.lt hq)).trans (hρ q hq)⟩
theorem Mgr.new {ρ:Own} {w:World} {b:Nat} {s:St} (h:Mgr ρ w b s) {k:Nat} (hk:w.heap.size<=k):ρ k=none:=by
 cases hb:ρ k with
 |none=>rfl
 |some r=>have:=h.lt k (by rw [hb];simp);omega
structure Bl (s:St) (os:List Int):Prop where
 inv:Inv s
 dom:Doms s.tx os
 rds:∀ n t,s.tx n=some t->t.reads=[]
theorem Bl.len {s:St} {os:List Int} (h:Bl s os):os.length<=16:=by
 obtain ⟨ks,hd,hl⟩:=h.inv.dom
 rw [zL1 h.dom hd];exact hl
theorem zOC {s:St} {os:List Int} (h:Bl s os) (hl:os.length<16):Bl (zCR s) (os++[s.given+1]) where
 inv:=zI9 h.inv (by rw [zGu h.dom];exact hl)
 dom:=by
  have hf:=h.inv.free
  refine ⟨?_,λn=>?_⟩
  ·refine List.nodup_append.2 ⟨h.dom.1,by simp,λa ha b hb=>?_⟩
   simp at hb;subst hb
   intro e;subst e
   obtain ⟨t,ht⟩:=(h.dom.2 _).1 ha
   rw [hf] at ht;cases ht
  ·rw [List.mem_append,List.mem_singleton,h.dom.2 n]
   show _↔∃ v,upd s.tx (s.given+1) (zFe s) n=some v
   by_cases hn:n=s.given+1
   ·subst hn;rw [Ql];simp
   ·rw [yT _ _ hn];simp [hn]
 rds n t ht:=by
  have ht':upd s.tx (s.given+1) (zFe s) n=some t:=ht
  by_cases hn:n=s.given+1
  ·subst hn;rw [Ql] at ht';cases ht';rfl
  ·rw [yT _ _ hn] at ht';exact h.rds n t ht'
theorem zPG {s s':St} {a:Ans} {x:Y5} {os:List Int} (h:Bl s os) (hn:s.now+1<=maxT) (e:Eff s x s' a) (hk:x.Kind=4∨x.Kind=5):Bl s' os/\s'.l=s.l/\s'.now=s.now/\s'.given=s.given:=by
 have hi:=zKu h.inv hn e
 cases e with
 |no e _=>exact ⟨h,rfl,rfl,rfl⟩
 |beg k _=>omega
 |get t k _ _ _=>omega
 |scan t k _ _=>omega
 |write t y hky ht hy hl=>
  refine ⟨⟨hi,⟨h.dom.1,λn=>?_⟩,λn u hu=>?_⟩,rfl,rfl,rfl⟩
  ·show _↔∃ v,upd s.tx x.Tx (putW t y) n=some v
   by_cases hn':n=x.Tx
   ·subst hn';rw [Ql,h.dom.2];exact ⟨λ_=>⟨_,rfl⟩,λ_=>⟨t,ht⟩⟩
   ·rw [yT _ _ hn'];exact h.dom.2 n
  ·have hu':upd s.tx x.Tx (putW t y) n=some u:=hu
   by_cases hn':n=x.Tx
   ·subst hn';rw [Ql] at hu';cases hu';exact h.rds _ t ht
   ·rw [yT _ _ hn'] at hu';exact h.rds n u hu'
 |abort t k _=>omega
 |fail t e k _ _=>omega
 |empty t k _ _ _=>omega
 |comm t ys k _ _ _ _ _=>omega
theorem zNq {s s':St} {a:Ans} {n:Int} {os:List Int} (h:Bl s os) (hn:s.now+1<=maxT) (e:Eff s ⟨6,n,noB,noB,noB⟩ s' a) (hw:a.why=0) {k:Nat} (hk:os[k]?=some n):Bl s' (os.take k++os.drop (k+1)):=by
 have hi:=zKu h.inv hn e
 have htx:s'.tx=del s.tx n:=by
  cases e with
  |no e he=>exact absurd hw he
  |beg k _=>exact absurd k (by show ¬ (6:Int)=_;decide)
  |get t k _ _ _=>exact absurd k (by show ¬ (6:Int)=_;decide)
  |scan t k _ _=>exact absurd k (by show ¬ (6:Int)=_;decide)
  |write t y hky ht hy hl=>rcases hky with ⟨k,_⟩|⟨k,_⟩<;>exact absurd k (by show ¬ (6:Int)=_;decide)
  |abort t k _=>exact absurd k (by show ¬ (6:Int)=_;decide)
  |fail t e k _ he=>exact absurd hw he
  |empty t k _ _ _=>rw [zIt]
  |comm t ys k _ _ _ _ _=>rw [zIt];rfl
 have hkl:=(List.getElem?_eq_some_iff.1 hk).1
 have hsplit:os=os.take k++n::os.drop (k+1):=by
  rw [← (List.getElem?_eq_some_iff.1 hk).2]
  simp
 have hnd:=h.dom.1
 rw [hsplit] at hnd
 obtain ⟨n1,n2,n3⟩:=List.nodup_append.1 hnd
 obtain ⟨n4,n5⟩:=List.nodup_cons.1 n2
 have hnot:n∉os.take k++os.drop (k+1):=λhm=>by
  rcases List.mem_append.1 hm with h1|h1
  ·exact n3 n h1 n (by simp) rfl
  ·exact n4 h1
 refine ⟨hi,⟨List.nodup_append.2 ⟨n1,n5,λa ha b hb=>n3 a ha b (by simp [hb])⟩,λm=>?_⟩,λm t ht=>?_⟩
 ·rw [htx]
  by_cases hm:m=n
  ·subst hm;rw [zEX];simp only [reduceCtorEq,exists_false,iff_false];exact hnot
  ·rw [zBT _ hm,← h.dom.2 m]
   conv=>rhs;rw [hsplit]
   simp [List.mem_append,hm]
 ·rw [htx] at ht
  by_cases hm:m=n
  ·subst hm;rw [zEX] at ht;cases ht
  ·rw [zBT _ hm] at ht;exact h.rds m t ht
theorem zNe {t:Tx} (h:t.reads=[]) (l:List Ver):l.any (conf t)=false:=by
 rw [List.any_eq_false]
 intro x _
 unfold conf;rw [h];simp
end Go.Proofs.YtealcoghiaeiiaaGreat.VG
set_option linter.unusedVariables false
set_option linter.unusedSimpArgs false
namespace Go.Proofs.YtealcoghiaeiiaaGreat.VG
open Go.VB Go.Proofs
def zBA (Ret:Bool->World->Prop) (x43:Bool) (w:World):Prop:=
 Ret x43 w
def ZF (Ret:Bool->World->Prop) (r_1:Option Addr) (x9:Sl) (x10_1:Sl) (x17:Int) (Kl4:Sl->Sl->Int->World->Prop) (x18:Int) (w:World):Prop:=
 opE zA zC (zF 24 (Sl.v x10_1) (.int .i64 x18)) w (λx121 w=>opE zA (zV .i64) (zD 3 (.pointer x121)) w (λx122 w=>Cl zA 15 [(.pointer r_1),(.int .i64 x122)].toArray w (λe w=>∃ (r_3:Sl) (r_4:Int) (r_5:Int),e=.returned (.tuple [(Sl.v r_3),(.int .u64 r_4),(.int .i64 r_5)].toArray)/\(((r_5≠0)->(Ret (decide (r_5=3)) w))/\(¬ (r_5≠0)->(Cl zA 16 [(Sl.v x9),(Sl.v r_3)].toArray w (λe w=>∃ (r_6:Sl),e=.returned (Sl.v r_6)/\(yG w (λw=>opP zA Sl.v (Instr.sliceAt 24 (Sl.v x10_1) none (some (.int .i64 x18)) none) (λx137=>opP zA Sl.v (Instr.sliceAt 24 (Sl.v x10_1) (some (.int .i64 (zB .i64 (x18+1)))) none none) (λx142=>opE zA Sl.v (zc 24 0 [].toArray) w (λx134 w=>opE zA Sl.v (Builtin.append_ #[24,24] 24 [(Sl.v x134),(Sl.v x137)].toArray) w (λx138 w=>opE zA Sl.v (Builtin.append_ #[24,24] 24 [(Sl.v x138),(Sl.v x142)].toArray) w (λx143 w=>Kl4 r_6 x143 (zB .i64 (x17+1)) w))))))))))))))
def ZE (x2:Sl) (Ret:Bool->World->Prop) (r_1:Option Addr) (x9:Sl) (x10_1:Sl) (x17:Int) (Kl4:Sl->Sl->Int->World->Prop) (x109:Bool) (w:World):Prop:=
 (x109=true->(opE zA zC (zF 24 (Sl.v x2) (.int .i64 x17)) w (λx112 w=>opE zA (zV .i64) (zD 3 (.pointer x112)) w (λx113 w=>opE zA (zV .i64) (binOp .rem 3 (.int .i64 x113) (.int .i64 (x10_1.len:Int))) w (λx116 w=>ZF Ret r_1 x9 x10_1 x17 Kl4 x116 w)))))/\(x109=false->(ZF Ret r_1 x9 x10_1 x17 Kl4 0 w))
def Z7 (Ret:Bool->World->Prop) (x161:Bool) (w:World):Prop:=
 Ret x161 w
def zAw (x2:Sl) (Ret:Bool->World->Prop) (r_1:Option Addr) (x9:Sl) (x10_1:Sl) (x17:Int) (w:World) (Kl4:Sl->Sl->Int->World->Prop):Prop:=
 ((0<(x10_1.len:Int))->(((x17<(x2.len:Int))->(opE zA zC (zF 24 (Sl.v x2) (.int .i64 x17)) w (λx106 w=>opE zA (zV .i64) (zD 3 (.pointer x106)) w (λx107 w=>ZE x2 Ret r_1 x9 x10_1 x17 Kl4 (decide (0<x107)) w))))/\(¬ (x17<(x2.len:Int))->(ZE x2 Ret r_1 x9 x10_1 x17 Kl4 false w))))/\(¬ (0<(x10_1.len:Int))->(Cl zA 12 [(.pointer r_1)].toArray w (λe w=>∃ (r_7:Int) (r_8:Int),e=.returned (.tuple [(.int .i64 r_7),(.int .i64 r_8)].toArray)/\(Cl zA 17 [(.pointer r_1),(.int .i64 r_7),(.string (ByteArray.mk #[])),(.string (ByteArray.mk #[]))].toArray w (λe w=>∃ (r_9:Sl) (r_10:Int),e=.returned (.tuple [(Sl.v r_9),(.int .i64 r_10)].toArray)/\(((r_10=0)->(Cl zA 18 [(Sl.v r_9),(Sl.v x9)].toArray w (λe w=>∃ (r_11:Bool),e=.returned (.bool r_11)/\(Z7 Ret r_11 w))))/\(¬ (r_10=0)->(Z7 Ret false w))))))))
def Yn (x2:Sl) (Ret:Bool->World->Prop) (r_1:Option Addr) (x46:Sl) (x10:Sl) (w:World):Prop:=
 ∃ (I:Sl->Sl->Int->World->Prop) (μ:Sl->Sl->Int->World->Nat),I x46 x10 0 w/\∀ (x9:Sl) (x10_1:Sl) (x17:Int) w,I x9 x10_1 x17 w->zAw x2 Ret r_1 x9 x10_1 x17 w (λx9' x10_1' x17' w'=>I x9' x10_1' x17' w'/\μ x9' x10_1' x17' w'<μ x9 x10_1 x17 w)
def Y9 (x74:Int) (Kl10:Int->World->Prop) (w:World):Prop:=
 Kl10 (zB .i64 (x74+1)) w
def zAf (r_1:Option Addr) (x49:Int) (Kl8:Sl->Int->World->Prop) (x53:Sl) (r_12:Int) (x71:Sl) (x74:Int) (w:World) (Kl10:Int->World->Prop):Prop:=
 ((x74<(x53.len:Int))->(opE zA zC (zF 30 (Sl.v x53) (.int .i64 x74)) w (λx76 w=>opE zA zI.v (zD 34 (.pointer x76)) w (λx77 w=>opE zA zC (zk 34 true (.tuple #[])) w (λx16 w=>opU zA (zK 34 (.pointer x16) (zI.v x77)) w (λw=>opE zA zC (zO 34 (.pointer x16) 2) w (λx78 w=>opE zA Qq (zD 4 (.pointer x78)) w (λx79 w=>(x79=true->(opE zA zC (zO 34 (.pointer x16) 0) w (λx82 w=>opE zA zY (zD 9 (.pointer x82)) w (λx83 w=>Cl zA 13 [(.pointer r_1),(.int .i64 r_12),(.string x83)].toArray w (λe w=>∃ (r_14:Int),e=.returned (.int .i64 r_14)/\(Y9 x74 Kl10 w))))))/\(x79=false->(opE zA zC (zO 34 (.pointer x16) 0) w (λx87 w=>opE zA zY (zD 9 (.pointer x87)) w (λx88 w=>opE zA zC (zO 34 (.pointer x16) 1) w (λx89 w=>opE zA zY (zD 9 (.pointer x89)) w (λx90 w=>Cl zA 14 [(.pointer r_1),(.int .i64 r_12),(.string x88),(.string x90)].toArray w (λe w=>∃ (r_15:Int),e=.returned (.int .i64 r_15)/\(Y9 x74 Kl10 w))))))))))))))))/\(¬ (x74<(x53.len:Int))->(Kl8 x71 (zB .i64 (x49+1)) w))
def ZG (x2:Sl) (Ret:Bool->World->Prop) (r_1:Option Addr) (x46:Sl) (x10_2:Sl) (x49:Int) (Kl8:Sl->Int->World->Prop) (x53:Sl) (x60:Bool) (w:World):Prop:=
 (x60=true->(Yn x2 Ret r_1 x46 x10_2 w))/\(x60=false->(Cl zA 12 [(.pointer r_1)].toArray w (λe w=>∃ (r_12:Int) (r_13:Int),e=.returned (.tuple [(.int .i64 r_12),(.int .i64 r_13)].toArray)/\(((r_13≠0)->(Ret false w))/\(¬ (r_13≠0)->(opE zA Sl.v (zc 24 1 [(0,(.int .i64 r_12))].toArray) w (λx70 w=>opE zA Sl.v (Builtin.append_ #[24,24] 24 [(Sl.v x10_2),(Sl.v x70)].toArray) w (λx71 w=>∃ (I:Int->World->Prop) (μ:Int->World->Nat),I 0 w/\∀ (x74:Int) w,I x74 w->zAf r_1 x49 Kl8 x53 r_12 x71 x74 w (λx74' w'=>I x74' w'/\μ x74' w'<μ x74 w)))))))))
def zAu (x0:Sl) (x1:Sl) (x2:Sl) (Ret:Bool->World->Prop) (r_1:Option Addr) (x46:Sl) (x10_2:Sl) (x49:Int) (w:World) (Kl8:Sl->Int->World->Prop):Prop:=
 ((x49<(x1.len:Int))->(opE zA zC (zF 23 (Sl.v x1) (.int .i64 x49)) w (λx52 w=>opE zA Sl.v (zD 30 (.pointer x52)) w (λx53 w=>((x49=16)->(ZG x2 Ret r_1 x46 x10_2 x49 Kl8 x53 true w))/\(¬ (x49=16)->(ZG x2 Ret r_1 x46 x10_2 x49 Kl8 x53 (decide (1000<(x0.len:Int))) w))))))/\(¬ (x49<(x1.len:Int))->(Yn x2 Ret r_1 x46 x10_2 w))
def ZD (x0:Sl) (x1:Sl) (x2:Sl) (Ret:Bool->World->Prop) (r_1:Option Addr) (r_2:Int) (x37:Bool) (w:World):Prop:=
 (x37=true->(((r_2≠0)->(opE zA Qq (do eqGuard .eql 26 (.tmp 41) (.const (.pointer none)) (.pointer r_1) (.pointer none);binOp .eql 26 (.pointer r_1) (.pointer none)) w (λx42 w=>zBA Ret x42 w)))/\(¬ (r_2≠0)->(zBA Ret false w))))/\(x37=false->(opE zA Sl.v (zc 22 0 [].toArray) w (λx44 w=>opE zA Sl.v (Builtin.append_ #[22,22] 22 [(Sl.v x44),(Sl.v x0)].toArray) w (λx46 w=>∃ (I:Sl->Int->World->Prop) (μ:Sl->Int->World->Nat),I Sl.none 0 w/\∀ (x10_2:Sl) (x49:Int) w,I x10_2 x49 w->zAu x0 x1 x2 Ret r_1 x46 x10_2 x49 w (λx10_2' x49' w'=>I x10_2' x49' w'/\μ x10_2' x49' w'<μ x10_2 x49 w)))))
def zCm (x0:Sl) (x1:Sl) (x2:Sl) (w:World) (Ret:Bool->World->Prop):Prop:=
 Cl zA 10 [].toArray w (λe w=>∃ (r:Bool),e=.returned (.bool r)/\(((!r)=true->(Ret false w))/\((!r)=false->(Cl zA 11 [(Sl.v x0)].toArray w (λe w=>∃ (r_1:Option Addr) (r_2:Int),e=.returned (.tuple [(.pointer r_1),(.int .i64 r_2)].toArray)/\(((r_2≠0)->(ZD x0 x1 x2 Ret r_1 r_2 true w))/\(¬ (r_2≠0)->(opE zA Qq (do eqGuard .eql 26 (.tmp 35) (.const (.pointer none)) (.pointer r_1) (.pointer none);binOp .eql 26 (.pointer r_1) (.pointer none)) w (λx36 w=>ZD x0 x1 x2 Ret r_1 r_2 x36 w)))))))))
set_option maxRecDepth 100000 in
theorem zGc (x0:Sl) (x1:Sl) (x2:Sl) (w:World) (Ret:Bool->World->Prop) (H:zCm x0 x1 x2 w Ret):Cl zA 3 [(Sl.v x0),(Sl.v x1),(Sl.v x2)].toArray w (λe w'=>∃ (r0:Bool),e=.returned (.bool r0)/\Ret r0 w'):=by
 unfold zCm at H
 refine zl 162 (zipE 0 [(Sl.v x0),(Sl.v x1),(Sl.v x2)]) Tryz.func3 rfl rfl (by rfl) rfl ?_
 intro a g
 replace g:Sat [] 162 [(0,(Sl.v x0)),(1,(Sl.v x1)),(2,(Sl.v x2))] a:=g
 refine zJ (zE (g.as_ rfl λ_ g=>zM (tn (zJ (zJ (zE (g.call (zZ g zQt rfl rfl) H λe w H=>?_)))))))
 obtain ⟨r,rfl,H⟩:=H
 refine ⟨_,rfl,λ_ g=>(g.pur (zAD g rfl) λ_ g=>zM (tn (zd g rfl (λhc=>?_) (λhc=>?_))))⟩
 ·replace H:=H.1 hc
  exact zJ (zE (g.as_ rfl λ_ g=>zM (tn (zg (tr (zt g rfl rfl ⟨_,rfl,H⟩))))))
 ·replace H:=H.2 hc
  refine zX (tn (zJ (zE (g.mv rfl λ_ g=>g.call (zZ g zPw rfl rfl) H λe w H=>?_))))
  obtain ⟨r_1,r_2,rfl,H⟩:=H
  refine ⟨_,rfl,λ_ g=>(g.mv rfl λ_ g=>g.pur (za g rfl rfl) λ_ g=>g.pur (za g rfl rfl) λ_ g=>g.as_ rfl λ_ g=>g.as_ rfl λ_ g=>zM (tn (zJ (zJ (zE (g.mv rfl λ_ g=>g.pur (zFL g rfl rfl) λ_ g=>g.mv rfl λ_ g=>WL.join (ds:=[]) (N:=162) (σ:=Bool) (λs=>[(37,(.bool s)),(0,(Sl.v x0)),(1,(Sl.v x1)),(2,(Sl.v x2)),(7,(.pointer r_1)),(8,(.int .i64 r_2))]) (λs w=>ZD x0 x1 x2 Ret r_1 r_2 s w) 3 ?_ (λhr1=>?_)))))))⟩
  ·intro x37 w a H g
   try dsimp only at H g
   unfold ZD at H
   refine zM (tn (zd g rfl (λhc=>?_) (λhc=>?_)))
   ·replace H:=H.1 hc
    refine zJ (zE (g.mv rfl λ_ g=>g.pur (zFL g rfl rfl) λ_ g=>g.mv rfl λ_ g=>WL.join (ds:=[]) (N:=162) (σ:=Bool) (λs=>[(43,(.bool s))]) (λs w=>zBA Ret s w) 3 ?_ (λhr2=>?_)))
    ·intro x43 w a H g
     try dsimp only at H g
     unfold zBA at H
     exact g.as_ rfl λ_ g=>zM (tn (zg (tr (zt g rfl rfl ⟨_,rfl,H⟩))))
    ·rcases Classical.em ((r_2≠0)) with hbr2|hbr2
     ·replace H:=H.1 hbr2
      replace g:=g.bool (b:=true) (t:=40) rfl (decide_eq_true hbr2)
      exact g.on (by rfl) (by rfl) (g.mv rfl λ_ g=>g.on (by rfl) (by rfl) (g.op (zCs g rfl rfl) H λx42 w a H g=>g.pur (zu g rfl rfl) λ_ g=>hr2 x42 _ _ H (g.wk)))
     ·replace H:=H.2 hbr2
      replace g:=g.bool (b:=false) (t:=40) rfl (decide_eq_false hbr2)
      exact g.off (by rfl) (by rfl) (by decide) (λ_ g=>g.off (by rfl) (by rfl) (by decide) (λ_ g=>g.pur (zv g rfl rfl) λ_ g=>hr2 false _ _ H (g.wk)))
   ·replace H:=H.2 hc
    refine zX (tn (zJ (zE (g.op (Qz g rfl) H λx44 w a H g=>g.mv rfl λ_ g=>g.op (zBE g rfl) H λx46 w a H g=>g.as_ rfl λ_ g=>zM (tn (zJ (zE (g.as_ rfl λ_ g=>zM (tn (zz (ds:=[]) (N:=162) (σ:=Sl) (λs=>[(10,(Sl.v s)),(2,(Sl.v x2)),(7,(.pointer r_1)),(9,(Sl.v x46))]) (λs w=>Yn x2 Ret r_1 x46 s w) ?_ (λhj3=>?_)))))))))))
    ·intro x10 w a H g
     try dsimp only at H g
     unfold Yn at H
     refine zJ (zJ (zE (g.as_ rfl λ_ g=>zM (tn (zW ?_)))))
     obtain ⟨I_l4,μ_l4,h0,hb⟩:=H
     refine yD (ds:=[]) (N:=162) (σ:=Sl × Sl × Int) (λs=>[(9,(Sl.v s.1)),(10,(Sl.v s.2.1)),(17,(.int .i64 s.2.2)),(2,(Sl.v x2)),(7,(.pointer r_1))]) (λs w=>I_l4 s.1 s.2.1 s.2.2 w) (λs w=>μ_l4 s.1 s.2.1 s.2.2 w) (x46,x10,0) h0 (g.wk) ?_
     rintro ⟨x9,x10_1,x17⟩ w a hI g
     try dsimp only at hI g
     obtain ⟨Kl4,hK_l4⟩:∃ K:Sl->Sl->Int->World->Prop,K=(λx9' x10_1' x17' w'=>I_l4 x9' x10_1' x17' w'/\μ_l4 x9' x10_1' x17' w'<μ_l4 x9 x10_1 x17 w):=⟨_,rfl⟩
     have H:zAw x2 Ret r_1 x9 x10_1 x17 w Kl4:=by rw [hK_l4];exact hb x9 x10_1 x17 w hI
     clear hb h0 hI
     unfold zAw at H
     refine zJ (zJ (zE (g.mv rfl λ_ g=>g.purR (λw=>ZQ g Tryz.underlying24 rfl) λ_ g=>g.pur (zBC g rfl rfl) λ_ g=>zM (tn (zb g rfl (λhc=>?_) (λhc=>?_))))))
     ·replace H:=H.1 hc
      refine zX (tn (zJ (zW (zJ (zE (g.as_ rfl λ_ g=>zM (tn (zz (ds:=[]) (N:=162) (σ:=Int) (λs=>[(18,(.int .i64 s)),(2,(Sl.v x2)),(7,(.pointer r_1)),(9,(Sl.v x9)),(10,(Sl.v x10_1)),(17,(.int .i64 x17))]) (λs w=>ZF Ret r_1 x9 x10_1 x17 Kl4 s w) ?_ (λhj5=>?_)))))))))
      ·intro x18 w a H g
       try dsimp only at H g
       unfold ZF at H
       refine zJ (zE (g.mv rfl λ_ g=>g.mv rfl λ_ g=>g.mv rfl λ_ g=>g.op (zH g rfl rfl) H λx121 w a H g=>g.op (zN g rfl) H λx122 w a H g=>g.call (zZ g zOr rfl rfl) H λe w H=>?_))
       obtain ⟨r_3,r_4,r_5,rfl,H⟩:=H
       refine ⟨_,rfl,λ_ g=>(g.mv rfl λ_ g=>g.pur (za g rfl rfl) λ_ g=>g.pur (za g rfl rfl) λ_ g=>g.pur (za g rfl rfl) λ_ g=>g.as_ rfl λ_ g=>g.as_ rfl λ_ g=>g.as_ rfl λ_ g=>zM (tn (zJ (zJ (zE (g.mv rfl λ_ g=>g.pur (zFL g rfl rfl) λ_ g=>zM (tn (zb g rfl (λhc=>?_) (λhc=>?_)))))))))⟩
       ·replace H:=H.1 hc
        exact zJ (zE (g.mv rfl λ_ g=>g.pur (zBF g rfl rfl) λ_ g=>g.as_ rfl λ_ g=>zM (tn (zg (tr (br (tr (tr (br (tr (zt g rfl rfl ⟨_,rfl,H⟩)))))))))))
       ·replace H:=H.2 hc
        refine zX (tn (zJ (zE (g.mv rfl λ_ g=>g.mv rfl λ_ g=>g.call (zZ g zRm rfl rfl) H λe w H=>?_))))
        obtain ⟨r_6,rfl,H⟩:=H
        refine ⟨_,rfl,λ_ g=>(g.as_ rfl λ_ g=>zM (tn (zBb 11 λw hB=>?_)))⟩
        replace H:=H w hB
        refine g.ap 1 rfl (zQ g rfl) λ_ g=>g.ap 2 rfl (zQ g rfl) λ_ g=>g.ao 3 rfl (zGx g rfl rfl rfl rfl) H λx137 a H g=>g.ap 5 rfl (zQ g rfl) λ_ g=>g.ap 6 rfl (zQ g rfl) λ_ g=>g.ap 7 rfl (zm g rfl rfl) λ_ g=>g.ao 8 rfl (zGx g rfl rfl rfl rfl) H λx142 a H g=>g.o1 0 rfl (Qz g rfl) H λx134 w a H g=>g.o1 4 rfl (zBE g rfl) H λx138 w a H g=>g.o1 9 rfl (zBE g rfl) H λx143 w a H g=>g.ap 10 rfl (Yt g rfl) λ_ g=>WA.ni ((bn (tn (zE (g.mv rfl λ_ g=>g.pur (zm g rfl rfl) λ_ g=>g.as_ rfl λ_ g=>?_)))))
        rw [hK_l4] at H
        exact zM (tn ⟨(r_6,x143,(zB .i64 (x17+1))),g.wk,H⟩)
      ·refine zJ (zE (g.mv rfl λ_ g=>g.mv rfl λ_ g=>g.purR (λw=>ZQ g Tryz.underlying24 rfl) λ_ g=>g.pur (yS g rfl rfl) λ_ g=>g.mv rfl λ_ g=>WL.join (ds:=[]) (N:=162) (σ:=Bool) (λs=>[(109,(.bool s)),(2,(Sl.v x2)),(7,(.pointer r_1)),(9,(Sl.v x9)),(10,(Sl.v x10_1)),(17,(.int .i64 x17)),(18,(.int .i64 0))]) (λs w=>ZE x2 Ret r_1 x9 x10_1 x17 Kl4 s w) 6 ?_ (λhr6=>?_)))
       ·intro x109 w a H g
        try dsimp only at H g
        unfold ZE at H
        refine zM (tn (zd g rfl (λhc=>?_) (λhc=>?_)))
        ·replace H:=H.1 hc
         exact zE (g.mv rfl λ_ g=>g.mv rfl λ_ g=>g.op (zH g rfl rfl) H λx112 w a H g=>g.op (zN g rfl) H λx113 w a H g=>g.mv rfl λ_ g=>g.purR (λw=>ZQ g Tryz.underlying24 rfl) λ_ g=>g.op (Y3 g rfl rfl) H λx116 w a H g=>g.as_ rfl λ_ g=>zM (tn (hj5 x116 _ _ H (g.wk))))
        ·replace H:=H.2 hc
         exact zX (tn (hj5 0 _ _ H (g.wk)))
       ·rcases Classical.em ((x17<(x2.len:Int))) with hbr6|hbr6
        ·replace H:=H.1 hbr6
         replace g:=g.bool (b:=true) (t:=103) rfl (decide_eq_true hbr6)
         exact g.on (by rfl) (by rfl) (g.mv rfl λ_ g=>g.on (by rfl) (by rfl) (g.mv rfl λ_ g=>g.on (by rfl) (by rfl) (g.op (zH g rfl rfl) H λx106 w a H g=>g.on (by rfl) (by rfl) (g.op (zN g rfl) H λx107 w a H g=>g.on (by rfl) (by rfl) (g.pur (zBC g rfl rfl) λ_ g=>g.pur (zu g rfl rfl) λ_ g=>hr6 (decide (0<x107)) _ _ H (g.wk))))))
        ·replace H:=H.2 hbr6
         replace g:=g.bool (b:=false) (t:=103) rfl (decide_eq_false hbr6)
         exact g.off (by rfl) (by rfl) (by decide) (λ_ g=>g.off (by rfl) (by rfl) (by decide) (λ_ g=>g.off (by rfl) (by rfl) (by decide) (λ_ g=>g.off (by rfl) (by rfl) (by decide) (λ_ g=>g.off (by rfl) (by rfl) (by decide) (λ_ g=>g.pur (zv g rfl rfl) λ_ g=>hr6 false _ _ H (g.wk))))))
     ·replace H:=H.2 hc
      refine z5 (te (te (be (tn (zJ (zE (g.mv rfl λ_ g=>g.call (zZ g zMs rfl rfl) H λe w H=>?_)))))))
      obtain ⟨r_7,r_8,rfl,H⟩:=H
      refine ⟨_,rfl,λ_ g=>(g.mv rfl λ_ g=>g.pur (za g rfl rfl) λ_ g=>g.pur (za g rfl rfl) λ_ g=>g.as_ rfl λ_ g=>g.as_ rfl λ_ g=>zM (tn (zJ (zE (g.mv rfl λ_ g=>g.mv rfl λ_ g=>g.call (zZ g zQ6 rfl rfl) H λe w H=>?_)))))⟩
      obtain ⟨r_9,r_10,rfl,H⟩:=H
      refine ⟨_,rfl,λ_ g=>(g.mv rfl λ_ g=>g.pur (za g rfl rfl) λ_ g=>g.pur (za g rfl rfl) λ_ g=>g.as_ rfl λ_ g=>g.as_ rfl λ_ g=>zM (tn (zJ (zE (g.mv rfl λ_ g=>g.pur (zBF g rfl rfl) λ_ g=>g.mv rfl λ_ g=>WL.join (ds:=[]) (N:=162) (σ:=Bool) (λs=>[(161,(.bool s))]) (λs w=>Z7 Ret s w) 4 ?_ (λhr7=>?_))))))⟩
      ·intro x161 w a H g
       try dsimp only at H g
       unfold Z7 at H
       exact g.as_ rfl λ_ g=>zM (tn (zg (zt g rfl rfl ⟨_,rfl,H⟩)))
      ·rcases Classical.em ((r_10=0)) with hbr7|hbr7
       ·replace H:=H.1 hbr7
        replace g:=g.bool (b:=true) (t:=157) rfl (decide_eq_true hbr7)
        refine g.on (by rfl) (by rfl) (g.mv rfl λ_ g=>g.on (by rfl) (by rfl) (g.mv rfl λ_ g=>g.on (by rfl) (by rfl) (g.call (zZ g zRL rfl rfl) H λe w H=>?_)))
        obtain ⟨r_11,rfl,H⟩:=H
        exact ⟨_,rfl,λ_ g=>(g.pur (zu g rfl rfl) λ_ g=>hr7 r_11 _ _ H (g.wk))⟩
       ·replace H:=H.2 hbr7
        replace g:=g.bool (b:=false) (t:=157) rfl (decide_eq_false hbr7)
        exact g.off (by rfl) (by rfl) (by decide) (λ_ g=>g.off (by rfl) (by rfl) (by decide) (λ_ g=>g.off (by rfl) (by rfl) (by decide) (λ_ g=>g.pur (zv g rfl rfl) λ_ g=>hr7 false _ _ H (g.wk))))
    ·refine zJ (zE (g.mv rfl λ_ g=>g.purR (λw=>ZQ g Tryz.underlying23 rfl) λ_ g=>g.mv rfl λ_ g=>zM (tn (zW ?_))))
     obtain ⟨I_l8,μ_l8,h0,hb⟩:=H
     refine yD (ds:=[]) (N:=162) (σ:=Sl × Int) (λs=>[(10,(Sl.v s.1)),(49,(.int .i64 s.2)),(0,(Sl.v x0)),(2,(Sl.v x2)),(7,(.pointer r_1)),(9,(Sl.v x46)),(47,(Sl.v x1)),(48,(.int .i64 (x1.len:Int)))]) (λs w=>I_l8 s.1 s.2 w) (λs w=>μ_l8 s.1 s.2 w) (Sl.none,0) h0 (g.wk) ?_
     rintro ⟨x10_2,x49⟩ w a hI g
     try dsimp only at hI g
     obtain ⟨Kl8,hK_l8⟩:∃ K:Sl->Int->World->Prop,K=(λx10_2' x49' w'=>I_l8 x10_2' x49' w'/\μ_l8 x10_2' x49' w'<μ_l8 x10_2 x49 w):=⟨_,rfl⟩
     have H:zAu x0 x1 x2 Ret r_1 x46 x10_2 x49 w Kl8:=by rw [hK_l8];exact hb x10_2 x49 w hI
     clear hb h0 hI
     unfold zAu at H
     refine zJ (zE (g.pur (yS g rfl rfl) λ_ g=>zM (tn (zJ (zb g rfl (λhc=>?_) (λhc=>?_))))))
     ·replace H:=H.1 hc
      refine zX (tn (zJ (zW (zJ (zE (g.mv rfl λ_ g=>g.op (zH g rfl rfl) H λx52 w a H g=>g.op (zN g rfl) H λx53 w a H g=>g.as_ rfl λ_ g=>g.as_ rfl λ_ g=>zM (tn (zJ (zJ (zE (g.mv rfl λ_ g=>g.pur (zBF g rfl rfl) λ_ g=>g.mv rfl λ_ g=>WL.join (ds:=[]) (N:=162) (σ:=Bool) (λs=>[(60,(.bool s)),(0,(Sl.v x0)),(2,(Sl.v x2)),(7,(.pointer r_1)),(9,(Sl.v x46)),(10,(Sl.v x10_2)),(12,(Sl.v x53)),(47,(Sl.v x1)),(48,(.int .i64 (x1.len:Int))),(49,(.int .i64 x49))]) (λs w=>ZG x2 Ret r_1 x46 x10_2 x49 Kl8 x53 s w) 4 ?_ (λhr9=>?_))))))))))))
      ·intro x60 w a H g
       try dsimp only at H g
       unfold ZG at H
       refine zM (tn (zd g rfl (λhc=>?_) (λhc=>?_)))
       ·replace H:=H.1 hc
        exact z5 (te (bo (te (te (be (tn (hj3 x10_2 _ _ H (g.wk))))))))
       ·replace H:=H.2 hc
        refine zX (tn (zJ (zE (g.mv rfl λ_ g=>g.call (zZ g zMs rfl rfl) H λe w H=>?_))))
        obtain ⟨r_12,r_13,rfl,H⟩:=H
        refine ⟨_,rfl,λ_ g=>(g.mv rfl λ_ g=>g.pur (za g rfl rfl) λ_ g=>g.pur (za g rfl rfl) λ_ g=>g.as_ rfl λ_ g=>g.as_ rfl λ_ g=>zM (tn (zJ (zJ (zE (g.mv rfl λ_ g=>g.pur (zFL g rfl rfl) λ_ g=>zM (tn (zb g rfl (λhc=>?_) (λhc=>?_)))))))))⟩
        ·replace H:=H.1 hc
         exact zJ (zE (g.as_ rfl λ_ g=>zM (tn (zg (tr (br (tr (tr (br (tr (zt g rfl rfl ⟨_,rfl,H⟩)))))))))))
        ·replace H:=H.2 hc
         refine zX (tn (zJ (zE (g.mv rfl λ_ g=>g.mv rfl λ_ g=>g.op (Qz g rfl) H λx70 w a H g=>g.op (zBE g rfl) H λx71 w a H g=>g.as_ rfl λ_ g=>zM (tn (zJ (zE (g.mv rfl λ_ g=>g.purR (λw=>ZQ g Tryz.underlying30 rfl) λ_ g=>g.mv rfl λ_ g=>zM (tn (zW ?_))))))))))
         obtain ⟨I_l10,μ_l10,h0,hb⟩:=H
         refine yD (ds:=[]) (N:=162) (σ:=Int) (λs=>[(74,(.int .i64 s)),(0,(Sl.v x0)),(2,(Sl.v x2)),(7,(.pointer r_1)),(9,(Sl.v x46)),(10,(Sl.v x71)),(13,(.int .i64 r_12)),(47,(Sl.v x1)),(48,(.int .i64 (x1.len:Int))),(49,(.int .i64 x49)),(72,(Sl.v x53)),(73,(.int .i64 (x53.len:Int)))]) (λs w=>I_l10 s w) (λs w=>μ_l10 s w) 0 h0 (g.wk) ?_
         intro x74 w a hI g
         try dsimp only at hI g
         obtain ⟨Kl10,hK_l10⟩:∃ K:Int->World->Prop,K=(λx74' w'=>I_l10 x74' w'/\μ_l10 x74' w'<μ_l10 x74 w):=⟨_,rfl⟩
         have H:zAf r_1 x49 Kl8 x53 r_12 x71 x74 w Kl10:=by rw [hK_l10];exact hb x74 w hI
         clear hb h0 hI
         unfold zAf at H
         refine zJ (zE (g.pur (yS g rfl rfl) λ_ g=>zM (tn (zJ (zb g rfl (λhc=>?_) (λhc=>?_))))))
         ·replace H:=H.1 hc
          refine zX (tn (zz (ds:=[]) (N:=162) (σ:=Unit) (λs=>[(0,(Sl.v x0)),(2,(Sl.v x2)),(7,(.pointer r_1)),(9,(Sl.v x46)),(10,(Sl.v x71)),(13,(.int .i64 r_12)),(47,(Sl.v x1)),(48,(.int .i64 (x1.len:Int))),(49,(.int .i64 x49)),(72,(Sl.v x53)),(73,(.int .i64 (x53.len:Int))),(74,(.int .i64 x74))]) (λs w=>Y9 x74 Kl10 w) ?_ (λhj11=>?_)))
          ·rintro ⟨⟩ w a H g
           try dsimp only at H g
           unfold Y9 at H
           refine zE (g.pur (zm g rfl rfl) λ_ g=>g.mv rfl λ_ g=>?_)
           rw [hK_l10] at H
           exact zM (tn ⟨(zB .i64 (x74+1)),g.wk,H⟩)
          ·refine zW (zJ (zE (g.op (zH g rfl rfl) H λx76 w a H g=>g.op (zN g rfl) H λx77 w a H g=>g.op (YW) H λx16 w a H g=>g.opu (zT g rfl rfl) H λw a H g=>zM (tn (zJ (zE (g.op (zS g rfl) H λx78 w a H g=>g.op (zN g rfl) H λx79 w a H g=>zM (tn (zd g rfl (λhc=>?_) (λhc=>?_))))))))))
           ·replace H:=H.1 hc
            refine zE (g.mv rfl λ_ g=>g.mv rfl λ_ g=>g.op (zS g rfl) H λx82 w a H g=>g.op (zN g rfl) H λx83 w a H g=>g.call (zZ g zRq rfl rfl) H λe w H=>?_)
            obtain ⟨r_14,rfl,H⟩:=H
            exact ⟨_,rfl,λ_ g=>(zM (bn (tn (hj11 () _ _ H (g.wk)))))⟩
           ·replace H:=H.2 hc
            refine zE (g.mv rfl λ_ g=>g.mv rfl λ_ g=>g.op (zS g rfl) H λx87 w a H g=>g.op (zN g rfl) H λx88 w a H g=>g.op (zS g rfl) H λx89 w a H g=>g.op (zN g rfl) H λx90 w a H g=>g.call (zZ g zOx rfl rfl) H λe w H=>?_)
            obtain ⟨r_15,rfl,H⟩:=H
            exact ⟨_,rfl,λ_ g=>(zM (bn (tn (hj11 () _ _ H (g.wk)))))⟩
         ·replace H:=H.2 hc
          refine z5 (te (te (be (bn (tn (zE (g.pur (zm g rfl rfl) λ_ g=>g.mv rfl λ_ g=>?_)))))))
          rw [hK_l8] at H
          exact zM (tn ⟨(x71,(zB .i64 (x49+1))),g.wk,H⟩)
      ·rcases Classical.em ((x49=16)) with hbr9|hbr9
       ·replace H:=H.1 hbr9
        replace g:=g.bool (b:=true) (t:=56) rfl (decide_eq_true hbr9)
        exact g.off (by rfl) (by rfl) (by decide) (λ_ g=>g.off (by rfl) (by rfl) (by decide) (λ_ g=>g.off (by rfl) (by rfl) (by decide) (λ_ g=>g.pur (zu g rfl rfl) λ_ g=>hr9 true _ _ H (g.wk))))
       ·replace H:=H.2 hbr9
        replace g:=g.bool (b:=false) (t:=56) rfl (decide_eq_false hbr9)
        exact g.on (by rfl) (by rfl) (g.mv rfl λ_ g=>g.on (by rfl) (by rfl) (g.purR (λw=>ZQ g Tryz.underlying22 rfl) λ_ g=>g.on (by rfl) (by rfl) (g.pur (zBC g rfl rfl) λ_ g=>g.pur (zv g rfl rfl) λ_ g=>hr9 (decide (1000<(x0.len:Int))) _ _ H (g.wk))))
     ·replace H:=H.2 hc
      exact z5 (te (te (be (tn (hj3 x10_2 _ _ H (g.wk))))))
  ·rcases Classical.em ((r_2≠0)) with hbr1|hbr1
   ·replace H:=H.1 hbr1
    replace g:=g.bool (b:=true) (t:=34) rfl (decide_eq_true hbr1)
    exact g.off (by rfl) (by rfl) (by decide) (λ_ g=>g.off (by rfl) (by rfl) (by decide) (λ_ g=>g.pur (zu g rfl rfl) λ_ g=>hr1 true _ _ H (g.wk)))
   ·replace H:=H.2 hbr1
    replace g:=g.bool (b:=false) (t:=34) rfl (decide_eq_false hbr1)
    exact g.on (by rfl) (by rfl) (g.mv rfl λ_ g=>g.on (by rfl) (by rfl) (g.op (zCs g rfl rfl) H λx36 w a H g=>g.pur (zv g rfl rfl) λ_ g=>hr1 x36 _ _ H (g.wk)))
end Go.Proofs.YtealcoghiaeiiaaGreat.VG
set_option linter.unusedVariables false
set_option linter.unusedSimpArgs false
namespace Go.VB
theorem zRc {P:Program} {w:World} {t:TypeId} {a b:Int} (ha:0<a) (hb:0<b) (hb1:b<=9223372036854775807) {k:Int->World->Prop} (H:∀ r:Int,0<=r->r<b->k r w):opE P (zV .i64) (binOp .rem t (.int .i64 a) (.int .i64 b)) w k:=by
 have h0:0<=a.tmod b:=Int.tmod_nonneg _ (by omega)
 have h1:a.tmod b<b:=Int.tmod_lt_of_pos _ hb
 refine ⟨a.tmod b,w,?_,H _ h0 h1⟩
 rw [binOp_rem]
 simp [Op.intDiv,show b≠0 by omega]
end Go.VB
namespace Go.Proofs.YtealcoghiaeiiaaGreat.VG
open Go.VB Go.Proofs Go.RowKit
abbrev zKf (w:World) (s:Sl) (l:List Int):Prop:=Rd (λi:Int=>[zV .i64 i]) 1 w s l
abbrev zHh (base:Nat) (w:World) (s:Sl) (l:List Int):Prop:=OwnS (λi:Int=>[zV .i64 i]) 1 ZC base w s l
def zMp (w:World) (s:Sl) (ss:List Sl):Prop:=Rd (λx:Sl=>[Sl.v x]) 1 w s ss/\∀ x∈ss,∃ m,zHs w x m
theorem zMp.bel {w w':World} {s:Sl} {ss:List Sl} (h:zMp w s ss) (hb:Bel w w'):zMp w' s ss:=⟨h.1.bel hb,λx hx=>let ⟨m,hm⟩:=h.2 x hx;⟨m,hm.bel hb⟩⟩
theorem zOp {s:St} (hI:Inv (zCR s)) (hl:s.tx (s.given+1)=none) {cur:List Pai} (hc:zAh (λk=>val s.l k s.now) cur):(zJJ (zCR s) (s.given+1) noB noB).2.why=0/\(zJJ (zCR s) (s.given+1) noB noB).2.pairs=cur:=by
 have ht:(zCR s).tx (s.given+1)=some (zFe s):=by show upd s.tx _ _ _=_;rw [Ql]
 unfold zJJ
 rw [zB1 ht]
 unfold zL5
 rw [if_neg (by simp [zFe])]
 refine ⟨rfl,?_⟩
 show zIY _=_
 refine zJy ?_
 rw [zMt]
 exact hc
theorem zKT {s:St} {os:List Int} (h:Bl s os) (hl:os.length<16):zF9 s=(zCR s,{ans0 with tx:=s.given+1}):=by
 unfold zF9;rw [zGu h.dom,if_neg (by omega)]
theorem zNt {w w2 W:World} {x2:Sl} {order:List Int} (h2:zKf w x2 order) {b:Nat} {ρ ρ':Own} {s:St} (hb2:Bel w w2) (hρ0:∀ q,q<w.heap.size->ρ q=none) (g:Ext ρ w2 ρ' W) (hM:Mgr ρ' W b s) {os:List Int} (hB:Bl s os)
  (hnow:s.now+os.length<=17) (hgiv:s.given<=16) {cur:List Pai} (hcur:zAh (λk=>val s.l k s.now) cur) {xc xo:Sl} (hOc:YJ w2.heap.size W xc cur) (hρc:∀ q,(Sl.v xc).ownBlock=some q->ρ' q=none) (hOo:zHh w2.heap.size W xo os) (hρo:∀ q,(Sl.v xo).ownBlock=some q->ρ' q=none):
  Yn x2 (λb w'=>b=true/\Bel w w') (ptrA b) xc xo W:=by
 have hbig:=h2.big;have hcap:=h2.cap;have hlen:=h2.len
 unfold Yn
 refine ⟨λa o i W=>∃ (n:Nat) (ρ':Own) (s:St) (os:List Int) (cur:List Pai),i=(n:Int)/\n+os.length<=16/\Ext ρ w2 ρ' W/\Mgr ρ' W b s/\Bl s os/\s.now+os.length<=17/\s.given<=16/\zAh (λk=>val s.l k s.now) cur/\YJ w2.heap.size W a cur/\(∀ q,(Sl.v a).ownBlock=some q->ρ' q=none)/\zHh w2.heap.size W o os/\(∀ q,(Sl.v o).ownBlock=some q->ρ' q=none),λ_ o _ _=>o.len,
  ⟨0,ρ',s,os,cur,rfl,by have:=hB.len;omega,g,hM,hB,hnow,hgiv,hcur,hOc,hρc,hOo,hρo⟩,?_⟩
 clear g hM hB hnow hgiv hcur hOc hρc hOo hρo
 rintro a o i W ⟨n,ρ',s,os,cur,rfl,hn,g,hM,hB,hnow,hgiv,hcur,hOa,hρa,hOo,hρo⟩
 have hbW:Bel w W:=g.base hb2 hρ0
 have hol:=hOo.len
 have hI:=hB.inv
 have h0:=hI.lo;have h1:=hI.lonow
 have hn1:s.now+1<=maxT:=by unfold maxT;omega
 have hgl:=hI.good.len
 have hcl:=zNb hI.good hcur
 unfold zAw
 refine ⟨λhc=>?_,λhc=>?_⟩
 ·-- one commits
  have J5:∀ (k:Nat),k<os.length->ZF (λb w'=>b=true/\Bel w w') (ptrA b) a o (n:Int) (λa' o' i' w'=>(∃ (n:Nat) (ρ':Own) (s:St) (os:List Int) (cur:List Pai),i'=(n:Int)/\n+os.length<=16/\Ext ρ w2 ρ' w'/\Mgr ρ' w' b s/\Bl s os/\s.now+os.length<=17/\s.given<=16/\zAh (λk=>val s.l k s.now) cur/\YJ w2.heap.size w' a' cur/\(∀ q,(Sl.v a').ownBlock=some q->ρ' q=none)/\zHh w2.heap.size w' o' os/\(∀ q,(Sl.v o').ownBlock=some q->ρ' q=none))/\o'.len<o.len) (k:Int) W:=by
   intro k hk
   unfold ZF
   obtain ⟨m,hm⟩:=getE (l:=os) (n:=k) hk
   have hRo:zKf W o os:=OwnS.rd hOo (λ_=>rfl)
   refine zDR hRo zC3 (λw=>by kernel_rfl) (by omega) (x:=m) (by simpa using hm) λad hA=>?_
   refine zAS zBs m (by have:=hA 0 (.int .i64 m) rfl;simpa [Addr.add] using this) ?_
   obtain ⟨t,ht⟩:=(hB.dom.2 m).1 (List.mem_of_getElem? hm)
   have hcw:=zNx hI hn1 ht (hI.sorts ht)
   have hcf:=hcw.2 (zNe (hB.rds m t ht) _)
   refine zOw hM hI (by omega) m λr ρ3 W3 hM3 hE3 hO3 hρ3=>?_
   have heff:=zMu hI hn1 ⟨6,m,noB,noB,noB⟩
   rw [zMT] at heff
   have hnn:=zPW heff
   obtain ⟨hall,_,hdl⟩:=zPo hI hn1 heff hcur
   have hblc:=λhw=>zNq hB hn1 heff hw hm
   have hgv:(zBp s m).1.given=s.given:=by
    unfold zBp;rw [zB1 ht]
    have ho:∀ (u:St) n,(zAc u n).given=u.given:=λu n=>by unfold zAc zIn;split<;>rfl
    unfold zGJ
    split
    ·rw [ho]
    ·split
     ·rw [ho]
     ·split
      ·rw [ho]
      ·rw [ho];rfl
   generalize (zBp s m).1=s' at hM3 heff hnn hall hblc hgv
   generalize (zBp s m).2.done=ds at hO3 hall hdl hcf
   generalize (zBp s m).2.why=e at heff hblc hcf ⊢
   refine ⟨λhe=>?_,λhe=>?_⟩
   ·exact ⟨decide_eq_true (hcf.resolve_right λh=>he h.1),(g.trans hE3).base hb2 hρ0⟩
   have he0:e=0:=Classical.not_not.1 he
   have hbl:=hblc he0
   obtain ⟨hOa3,hρa3⟩:=hOa.ext hρa hE3
   obtain ⟨hOo3,hρo3⟩:=hOo.ext hρo hE3
   have hE03:=g.trans hE3
   refine zPu (YJ.rd hOa3) (zDj.rd hO3) (by omega) λra W4 hO4 b4=>?_
   have hs3:w2.heap.size<=W3.heap.size:=hE03.out.size
   intro W5 b5
   have b35:=b4.trans b5
   have hRo3:zKf W3 o os:=OwnS.rd hOo3 (λ_=>rfl)
   have hcapo:=hRo3.cap
   rw [wr64 (by omega) (by omega)]
   refine ⟨o.sub 0 k 1,λw=>zL6 zC3 zFw (by omega),?_⟩
   refine ⟨o.sub (k+1) o.len 1,λw=>by
    have:=zLv (kl:=.i64) zC3 zFw (w:=w) (s:=o) (l:=k+1) (by omega)
    simpa using this,?_⟩
   have r1:zKf W3 (o.sub 0 k 1) (os.take k):=by
    have:=hRo3.sub (l:=0) (h:=k) (by omega) (by omega)
    simpa using this
   have r2:zKf W3 (o.sub (k+1) o.len 1) (os.drop (k+1)):=by
    have:=hRo3.sub (l:=k+1) (h:=o.len) (by omega) (by omega)
    rw [List.take_of_length_le (by rw [List.length_drop];omega)] at this
    exact this
   have b6:=Bel.alloc W5 (.cells #[] ZC)
   refine ⟨_,_,zNm W5,?_⟩
   refine zKg (w0:=W5) (OwnS.lit0 (zU _)) ((r1.bel b35).bel b6) (λ_=>rfl) (λ_=>rfl) (by decide) zC3 zIL rfl (by decide) b6 (zU _) (by rw [size_alloc'];omega) (by rw [List.length_take];simp;omega) λz1 W6 hz1 b56 _=>?_
   rw [List.nil_append] at hz1
   refine zKg (w0:=W5) hz1 ((r2.bel b35).bel b56) (λ_=>rfl) (λ_=>rfl) (by decide) zC3 zIL rfl (by decide) b56 (zU _) b56.le (by rw [List.length_take,List.length_drop];omega) λz2 W7 hz2 b57 _=>?_
   have b37:=b35.trans b57
   have hs35:=b35.le
   have hlen2:(os.take k++os.drop (k+1)).length=os.length - 1:=by rw [zy,List.length_take,List.length_drop];omega
   have hz2l:=hz2.len
   rw [wr64 (by omega) (by omega)]
   refine ⟨⟨n+1,ρ3,s',_,_,by omega,by omega,hE03.trans (Ext.bel b37),hM3.bel b37,hbl,by omega,by omega,hall,(hO4.bel (b5.trans b57)).low hs3,λq hq=>hM3.new (by have:=hO4.lo hq;omega),hz2.low (by omega),λq hq=>(hM3.bel b35).new (hz2.lo hq)⟩,by omega⟩
  have J6:∀ (c:Bool),(c=true->n<order.length/\∀ v,order[n]?=some v->0<v)->ZE x2 (λb w'=>b=true/\Bel w w') (ptrA b) a o (n:Int) (λa' o' i' w'=>(∃ (n:Nat) (ρ':Own) (s:St) (os:List Int) (cur:List Pai),i'=(n:Int)/\n+os.length<=16/\Ext ρ w2 ρ' w'/\Mgr ρ' w' b s/\Bl s os/\s.now+os.length<=17/\s.given<=16/\zAh (λk=>val s.l k s.now) cur/\YJ w2.heap.size w' a' cur/\(∀ q,(Sl.v a').ownBlock=some q->ρ' q=none)/\zHh w2.heap.size w' o' os/\(∀ q,(Sl.v o').ownBlock=some q->ρ' q=none))/\o'.len<o.len) c W:=by
   intro c hcv
   unfold ZE
   refine ⟨λht=>?_,λ_=>J5 0 (by omega)⟩
   obtain ⟨h3,h4⟩:=hcv ht
   obtain ⟨v,hv⟩:=getE (l:=order) (n:=n) h3
   refine zDR (h2.bel hbW) zC3 zFw (by omega) (x:=v) (by simpa using hv) λad hA=>?_
   refine zAS zBs v (by have:=hA 0 (.int .i64 v) rfl;simpa [Addr.add] using this) ?_
   refine zRc (h4 v hv) (by omega) (by omega) λr hr0 hr1=>?_
   obtain ⟨k,rfl⟩:∃ k:Nat,r=(k:Int):=⟨r.toNat,by omega⟩
   exact J5 k (by omega)
  refine ⟨λhlt=>?_,λ_=>J6 false λh=>(nomatch h)⟩
  obtain ⟨v,hv⟩:=getE (l:=order) (n:=n) (by omega)
  refine zDR (h2.bel hbW) zC3 zFw (by omega) (x:=v) (by simpa using hv) λad hA=>?_
  refine zAS zBs v (by have:=hA 0 (.int .i64 v) rfl;simpa [Addr.add] using this) ?_
  exact J6 _ λh=>⟨by omega,λu hu=>by rw [hv] at hu;cases hu;exact of_decide_eq_true h⟩
 ·have hos:os=[]:=List.eq_nil_of_length_eq_zero (by omega)
  subst hos
  refine zM8 hM hI (by omega) λρ3 W3 hM3 hE3=>?_
  rw [zKT hB (by simp)] at hM3 ⊢
  simp only at hM3 ⊢
  have hI3:=zI9 hI (by rw [zGu hB.dom];simp)
  obtain ⟨hs1,hs2⟩:=zOp hI3 hI.free hcur
  obtain ⟨hO3,hρ3⟩:=hOa.ext hρa hE3
  refine zQO hM3 hI3 (s.given+1) noB noB λr ρ4 W4 hM4 hE4 hO4 hρ4=>?_
  obtain ⟨hO4',_⟩:=hO3.ext hρ3 hE4
  rw [hs2] at hO4
  rw [hs1]
  refine ⟨λ_=>?_,λh=>absurd rfl h⟩
  refine zO1 (YJ.rd hO4) (YJ.rd hO4') λc W5 hc5 b5=>?_
  unfold Z7
  exact ⟨hc5.2 rfl,(((g.trans hE3).trans hE4).base hb2 hρ0).trans b5⟩
theorem zPI {w:World} {x0 x1 x2:Sl} {l:List Pai} {ss:List Sl} {order:List Int} (h:zHn w x0 l) (h1:zMp w x1 ss) (h2:zKf w x2 order):
  Cl zA zGi [Sl.v x0,Sl.v x1,Sl.v x2].toArray w (λe w'=>∃ r0:Bool,e=.returned (.bool r0)/\(r0=true/\Bel w w')):=by
 refine zGc x0 x1 x2 w (λb w'=>b=true/\Bel w w') ?_
 have hbig:=h1.1.big;have hcap:=h1.1.cap;have hlen:=h1.1.len;have hl0:=h.len
 unfold zCm
 refine zOm w λw1 b1=>⟨λh=>(nomatch h),λ_=>?_⟩
 refine zRf (h.bel b1) (λw2 he b2=>⟨λ_=>?_,λh=>absurd he h⟩) λb ρ w2 he hI hv b2 m2 hρ=>⟨λh=>absurd rfl h,λ_=>zKQ _ ?_⟩
 ·unfold ZD
  refine ⟨λ_=>⟨λ_=>zKQ none ?_,λh=>absurd he h⟩,λh=>(nomatch h)⟩
  exact ⟨rfl,b1.trans b2⟩
 have hl4:=zOl he
 have b02:=b1.trans b2
 have hρ0:∀ q,q<w.heap.size->ρ q=none:=λq hq=>hρ q (xf hq b1.le)
 unfold ZD
 refine ⟨λh=>(nomatch h),λ_=>?_⟩
 have b3:=Bel.alloc w2 (.cells #[] ZU)
 refine ⟨_,_,zHX w2,?_⟩
 refine zNV (w0:=w2) (OwnS.lit0 (zU _)) ((h.bel b02).bel b3) b3 (zU _) (by rw [size_alloc'];omega) (by simp;omega) λxc w3 hO3 b23 _=>?_
 rw [List.nil_append] at hO3
 have m3:=m2.bel b23
 have hB0:Bl (newS l) []:=⟨hI,⟨List.nodup_nil,λn=>by simp [newS]⟩,λn t ht=>(nomatch ht)⟩
 refine ⟨λo i W=>∃ (n:Nat) (ρ':Own) (s:St) (os:List Int),i=(n:Int)/\n<=ss.length/\n<=16/\os.length=n/\Ext ρ w2 ρ' W/\Mgr ρ' W b s/\Bl s os/\s.now=1/\s.given=n/\zAh (λk=>val s.l k s.now) l/\YJ w2.heap.size W xc l/\(∀ q,(Sl.v xc).ownBlock=some q->ρ' q=none)/\zHh w2.heap.size W o os/\(∀ q,(Sl.v o).ownBlock=some q->ρ' q=none),λ_ i _=>(x1.len - i).toNat,
  ⟨0,ρ,newS l,[],rfl,by omega,by omega,rfl,Ext.bel b23,m3,hB0,rfl,rfl,hv,hO3,λq hq=>m2.new (hO3.lo hq),OwnS.nil _ _ _ _ _,λq hq=>by cases hq⟩,?_⟩
 rintro o i W ⟨n,ρ',s,os,rfl,hn,hn16,hol,hE,hM,hB,hnow,hgiv,hcur,hOc,hρc,hOo,hρo⟩
 have hbW:Bel w W:=hE.base b02 hρ0
 have fin:Yn x2 (λb w'=>b=true/\Bel w w') (ptrA b) xc o W:=
  zNt h2 b02 hρ0 hE hM hB (by omega) (by omega) hcur hOc hρc hOo hρo
 unfold zAu
 refine ⟨λhc=>?_,λ_=>fin⟩
 obtain ⟨xs,hxs⟩:=getE (l:=ss) (n:=n) (by omega)
 obtain ⟨m,hm0⟩:=h1.2 xs (List.mem_of_getElem? hxs)
 have hm:=hm0.bel hbW
 refine zDR (h1.1.bel hbW) zIw zIq (by omega) (x:=xs) (by simpa using hxs) λad hA=>?_
 refine zAS zEj xs (by have:=hA 0 (Sl.v xs) rfl;simpa [Addr.add] using this) ?_
 have J9:∀ (c:Bool),(c=false->n<16)->ZG x2 (λb w'=>b=true/\Bel w w') (ptrA b) xc o (n:Int) (λo' i' w'=>(∃ (n:Nat) (ρ':Own) (s:St) (os:List Int),i'=(n:Int)/\n<=ss.length/\n<=16/\os.length=n/\Ext ρ w2 ρ' w'/\Mgr ρ' w' b s/\Bl s os/\s.now=1/\s.given=n/\zAh (λk=>val s.l k s.now) l/\YJ w2.heap.size w' xc l/\(∀ q,(Sl.v xc).ownBlock=some q->ρ' q=none)/\zHh w2.heap.size w' o' os/\(∀ q,(Sl.v o').ownBlock=some q->ρ' q=none))/\(x1.len - i').toNat<(x1.len - (n:Int)).toNat) xs c W:=by
  intro c hcn
  unfold ZG
  refine ⟨λ_=>fin,λh0=>?_⟩
  have hn15:=hcn h0
  refine zM8 hM hB.inv (by omega) λρ3 W3 hM3 hE3=>?_
  rw [zKT hB (by omega)] at hM3 ⊢
  simp only at hM3 ⊢
  refine ⟨λh=>absurd rfl h,λ_=>?_⟩
  have hB3:=zOC hB (by omega)
  obtain ⟨hOc3,hρc3⟩:=hOc.ext hρc hE3
  obtain ⟨hOo3,hρo3⟩:=hOo.ext hρo hE3
  have hE03:=hE.trans hE3
  have hs3:w2.heap.size<=W3.heap.size:=hE03.out.size
  have hsW:w2.heap.size<=W.heap.size:=hE.out.size
  refine zLM hOo3 (λ_=>rfl) (λ_=>rfl) (by decide) zC3 zIL rfl (by decide) (zNo (s.given+1)) hs3 (by omega) λz W4 hz4 g4 hz4b=>?_
  have hoC:(Sl.v xc).ownBlock=none∨(Sl.v xc).ownBlock≠(Sl.v o).ownBlock:=by
   cases hk:(Sl.v xc).ownBlock with
   |none=>exact .inl rfl
   |some q=>
    refine .inr λe=>?_
    obtain ⟨cur1,hc1⟩:∃ cur,W.heap[q]?=some (.cells cur ZU (0,0)):=by
     rcases hOc.row.2 with ⟨h1,_⟩|⟨g,cap,cur,h1,_,hh,_⟩
     ·rw [h1] at hk;cases hk
     ·rw [h1] at hk;simp [Value.ownBlock] at hk;subst hk;exact ⟨_,hh⟩
    obtain ⟨cur2,hc2⟩:∃ cur,W.heap[q]?=some (.cells cur ZC (0,0)):=by
     have hk2:=e.symm
     rcases hOo.row.2 with ⟨h1,_⟩|⟨g,cap,cur,h1,_,hh,_⟩
     ·rw [h1] at hk2;cases hk2
     ·rw [h1] at hk2;simp [Value.ownBlock] at hk2;subst hk2;exact ⟨_,hh⟩
    rw [hc1] at hc2;cases hc2
  have hM4:Mgr ρ3 W4 b (zCR s):=by
   obtain ⟨vs,mb,g,m⟩:=hM3
   exact ⟨vs,mb,g,m.keep g4.size λk hk=>g4.block k (m.lt k hk) λe=>by have:=hρo3 k e.symm;exact hk this⟩
  have hE4:Ext ρ w2 ρ3 W4:=⟨hE03.out.trans (T:=λk=>(Sl.v o).ownBlock=some k) (Out.row g4 λk hk=>.inl hk) λk hk e=>by have:=hOo3.lo e;omega,hE03.same⟩
  have hOc4:=hOc3.kept g4 hoC
  have hρz:∀ q,(Sl.v z).ownBlock=some q->ρ3 q=none:=λq hq=>by
   rcases hz4b q hq with h5|h5
   ·exact hρo3 q h5
   ·exact hM3.new h5
  have hmbig:=hm.big;have hmcap:=hm.cap;have hmlen:=hm.len
  have hnum:(zCR s).given=s.given+1:=rfl
  have hcur3:zAh (λk=>val (zCR s).l k (zCR s).now) l:=hcur
  have hnow3:(zCR s).now=1:=hnow
  generalize zCR s=s3 at hM4 hB3 hnum hcur3 hnow3
  clear hM3
  refine ⟨λi W=>∃ (j:Nat) (ρ':Own) (s':St),i=(j:Int)/\j<=m.length/\Ext ρ w2 ρ' W/\Mgr ρ' W b s'/\Bl s' (os++[s.given+1])/\s'.now=1/\s'.given=s.given+1/\zAh (λk=>val s'.l k s'.now) l/\YJ w2.heap.size W xc l/\(∀ q,(Sl.v xc).ownBlock=some q->ρ' q=none)/\zHh w2.heap.size W z (os++[s.given+1])/\(∀ q,(Sl.v z).ownBlock=some q->ρ' q=none),λi _=>(xs.len - i).toNat,
   ⟨0,ρ3,s3,rfl,by omega,hE4,hM4,hB3,hnow3,hnum,hcur3,hOc4,hρc3,hz4,hρz⟩,?_⟩
  rintro i W5 ⟨j,ρ5,s5,rfl,hj,hE5,hM5,hB5,hnow5,hgiv5,hcur5,hOc5,hρc5,hOz5,hρz5⟩
  have hbW5:Bel w W5:=hE5.base b02 hρ0
  have hbWW:Bel w W5:=hbW5
  unfold zAf
  refine ⟨λhc5=>?_,λhc5=>?_⟩
  ·obtain ⟨x,hx⟩:=getE (l:=m) (n:=j) (by omega)
   refine zDR (hm0.bel hbW5) zAR zBX (by omega) (x:=x) (by simpa using hx) λad hA=>?_
   refine zBI y6 x rfl hA rfl ?_
   refine zCT zAl rfl y6 (cs:=x.cells) rfl rfl rfl λX W6 b6 hX hX0=>?_
   have hn5:s5.now+1<=maxT:=by rw [hnow5];decide
   have J11:∀ (y:Wri) (st:Y5),doS s5 st=zEo s5 (s.given+1) y->(st.Kind=4∨st.Kind=5)->∀ ρ7 W7,Mgr ρ7 W7 b (zEo s5 (s.given+1) y).1->Ext ρ5 W6 ρ7 W7->
     Y9 (j:Int) (λi' w'=>(∃ (j:Nat) (ρ':Own) (s':St),i'=(j:Int)/\j<=m.length/\Ext ρ w2 ρ' w'/\Mgr ρ' w' b s'/\Bl s' (os++[s.given+1])/\s'.now=1/\s'.given=s.given+1/\zAh (λk=>val s'.l k s'.now) l/\YJ w2.heap.size w' xc l/\(∀ q,(Sl.v xc).ownBlock=some q->ρ' q=none)/\zHh w2.heap.size w' z (os++[s.given+1])/\(∀ q,(Sl.v z).ownBlock=some q->ρ' q=none))/\(xs.len - i').toNat<(xs.len - (j:Int)).toNat) W7:=by
    intro y st hst hk ρ7 W7 hM7 hE7
    have heff:=zMu hB5.inv hn5 st
    obtain ⟨q1,q2,q3,q4⟩:=zPG hB5 hn5 heff hk
    rw [hst] at q1 q2 q3 q4
    obtain ⟨hOc7,hρc7⟩:=(hOc5.bel b6).ext hρc5 hE7
    obtain ⟨hOz7,hρz7⟩:=(hOz5.bel b6).ext hρz5 hE7
    unfold Y9
    rw [wr64 (by omega) (by omega)]
    refine ⟨⟨j+1,ρ7,_,by omega,by omega,(hE5.trans (Ext.bel b6)).trans hE7,hM7,q1,q3.trans hnow5,q4.trans hgiv5,?_,hOc7,hρc7,hOz7,hρz7⟩,by omega⟩
    rw [q2,q3];exact hcur5
   refine yy zBH zDe hX.at x.Gone rfl ⟨λhg=>?_,λhg=>?_⟩
   ·refine yy yj zn hX.at x.Key rfl ?_
    exact zN9 (hM5.bel b6) (s.given+1) x.Key λρ7 W7 hM7 hE7=>J11 _ ⟨5,s.given+1,x.Key,noB,noB⟩ (zPb _ _ _) (.inr rfl) ρ7 W7 hM7 hE7
   ·refine yy yj zn hX.at x.Key rfl ?_
    refine yy zAE zn hX.at x.Val rfl ?_
    exact zRe (hM5.bel b6) (s.given+1) x.Key x.Val λρ7 W7 hM7 hE7=>J11 _ ⟨4,s.given+1,x.Key,noB,x.Val⟩ (zPt _ _ _ _) (.inl rfl) ρ7 W7 hM7 hE7
  ·rw [wr64 (by omega) (by omega)]
   exact ⟨⟨n+1,ρ5,s5,_,by omega,by omega,by omega,by rw [zy,List.length_singleton];omega,hE5,hM5,hB5,hnow5,by omega,hcur5,hOc5,hρc5,hOz5,hρz5⟩,by omega⟩
 exact ⟨λ_=>J9 true λh=>(nomatch h),λh16=>J9 _ λ_=>by omega⟩
end Go.Proofs.YtealcoghiaeiiaaGreat.VG
