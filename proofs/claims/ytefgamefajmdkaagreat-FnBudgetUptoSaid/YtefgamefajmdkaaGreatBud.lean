/- Searches with more visits; the lines of a search are right. -/
import Derived.Test.YtefgamefajmdkaaGreatVis
import Derived.Test.YtefgamefajmdkaaGreatSnd
import Derived.Test.YtefgamefajmdkaaGreatDr
import Derived.Test.YtefgamefajmdkaaGreatPlain
set_option linter.all false
set_option maxRecDepth 20000
set_option maxHeartbeats 0
namespace Go.Proofs.YtefgamefajmdkaaGreat.Abs
open Go.Proofs
attribute [local irreducible] eZ fE aI status litValue single choice
theorem Ht {h:Lg} {rec:Int→Lg→Way} {most:Int} (hr:∀v g,v≤most→v≤(rec v g).visits∧(rec v g).visits≤most) (x:Lit) (ls:List Lin) (v:Int) (hv:v≤most):v≤(dS h rec x ls v).visits∧(dS h rec x ls v).visits≤most:=by
 unfold dS
 split
 ·exact⟨Int.le_refl _,hv⟩
 ·exact hr _ _ hv
structure More (w w':Way):Prop where
 same:w.stopped=false→w'=w
 more:w.visits≤w'.visits
 nof:w.stopped=true→w.found=none
theorem More.refl {w:Way} (h:w.stopped=true→w.found=none):More w w:=⟨fun _=>rfl,Int.le_refl _,h⟩
theorem OM (h:Lg) (ls:List Lin) (v:Int):(iN h ls v).found=none:=by unfold iN;split<;>rfl
theorem Bw {h:Lg} {rec rec':Int→Lg→Way} {m m' lo:Int} (hmm:m≤m') (hb:∀v g,v≤m→v≤(rec v g).visits∧(rec v g).visits≤m) (hb':∀v g,v≤m'→v≤(rec' v g).visits∧(rec' v g).visits≤m')
  (hr:∀v g,lo≤v→v≤m→More (rec v g) (rec' v g)):∀(xs:List Lit) (ls:List Lin) (v:Int),lo≤v→v≤m→More (fM h rec xs ls v) (fM h rec' xs ls v)
 |[],ls,v,_,hv=>More.refl fun _=>OM h ls v
 |x::xs,ls,v,hlo,hv=>by
  have hs:More (dS h rec x ls v) (dS h rec' x ls v):=by
   cases ht:takeLog (dB h ls) x with
   |none=>rw [iV ht,iV ht];exact More.refl fun _=>rfl
   |some n=>rw [iW ht,iW ht];exact hr v n hlo hv
  have h1:=Ht (h:=h) hb x ls v hv
  have h2:=Ht (h:=h) hb' x ls v (by omega)
  rcases hw:dS h rec x ls v with⟨a,b,_|c,_|_⟩
  ·rw [hw] at hs h1
   have e:=hs.same rfl
   rw [iX hw,iX e]
   exact Bw hmm hb hb' hr xs a b (Int.le_trans hlo h1.1) h1.2
  ·rw [hw] at hs h1
   rw [dh hw (.inr rfl)]
   refine⟨nofun,?_,fun _=>rfl⟩
   have h3:=hs.more
   rcases hw':dS h rec' x ls v with⟨a',b',_|c',_|_⟩
   ·rw [hw'] at h2 h3
    rw [iX hw']
    have:=(rA (h:=h) hb' xs a' b' h2.2).1
    dsimp only at h3 ⊢;omega
   all_goals
    rw [dh hw' (by simp)]
    rw [hw'] at h3;exact h3
  ·rw [hw] at hs
   have e:=hs.same rfl
   rw [dh hw (by simp),dh e (by simp)]
   exact More.refl nofun
  ·rw [hw] at hs
   have:=hs.nof rfl
   cases this
theorem Mr {h:Lg} {rec rec':Int→Lg→Way} {m m' lo:Int} (hmm:m≤m') (hb:∀v g,v≤m→v≤(rec v g).visits∧(rec v g).visits≤m) (hb':∀v g,v≤m'→v≤(rec' v g).visits∧(rec' v g).visits≤m')
  (hr:∀v g,lo≤v→v≤m→More (rec v g) (rec' v g)) (v:Int) (hlo:lo≤v) (hv:v≤m):More (iy h rec v) (iy h rec' v):=by
 unfold iy
 split
 ·exact More.refl nofun
 ·split
  ·exact More.refl nofun
  ·split
   ·exact More.refl fun _=>rfl
   ·exact Bw hmm hb hb' hr _ _ _ hlo hv
theorem OO {m m':Int} (hmm:m≤m'):∀(f f':Nat) (v:Int) (g:Lg),m < v+f→m' < v+f'→v≤m→More (vis m f v g) (vis m' f' v g)
 |0,f',v,g,h,_,hv=>by omega
 |f+1,0,v,g,h,h',hv=>by omega
 |f+1,f'+1,v,g,h,h',hv=>by
  by_cases e:v=m
  ·subst e
   rw [Bn]
   exact⟨nofun,(jW m' (f'+1) v g hmm).1,fun _=>rfl⟩
  ·rw [sG _ _ _ _ e,sG _ _ _ _ (by omega)]
   exact Mr (m:=m) (m':=m') (lo:=v+1) hmm (fun v g hv=>jW m f v g hv) (fun v g hv=>jW m' f' v g hv) (fun w g h1 h2=>OO hmm f f' w g (by omega) (by omega) h2) _ (Int.le_refl _) (by omega)
theorem yA {p:Proj} {all:List Lin}:∀(l:List Lin) (k:Nat),(∀j x,l[j]? =some x→aI p (all.take (k+j)) x=0)→gM p all l k=(0,((k+l.length:Nat):Int))
 |[],k,_=>by rw [gM];simp
 |x::l,k,h=>by
  rw [gM,if_pos (by simpa using h 0 x rfl),yA l (k+1) (fun j y hy=>by rw [show k+1+j=k+(j+1) by omega];exact h (j+1) y (by simpa using hy))]
  simp only [List.length_cons];congr 2;omega
theorem OP {p:Proj} {ls:List Lin} (h:∀j x,ls[j]? =some x→aI p (ls.take j) x=0):lJ p ls=(0,(ls.length:Int)):=by
 unfold lJ;rw [yA ls 0 (fun j x hx=>by rw [Nat.zero_add];exact h j x hx),Nat.zero_add]
def Right (p:Proj) (ls:List Lin):Prop:=∀j x,ls[j]? =some x→aI p (ls.take j) x=0
theorem Right.nil (p:Proj):Right p []:=fun j x h=>by simp at h
theorem Right.snoc {p:Proj} {ls:List Lin} {l:Lin} (h:Right p ls) (hl:aI p ls l=0):Right p (ls++[l]):=by
 intro j x hx
 by_cases hj:j < ls.length
 ·rw [List.getElem?_append_left hj] at hx
  rw [List.take_append_of_le_length (by omega)]
  exact h j x hx
 ·rw [List.getElem?_append_right (by omega)] at hx
  have e:j=ls.length:=by
   by_cases e:j - ls.length=0
   ·omega
   ·rw [List.getElem?_eq_none (by simp;omega)] at hx;cases hx
  subst e
  simp at hx
  subst hx
  rw [List.take_append_of_le_length (Nat.le_refl _),List.take_length]
  exact hl
theorem Right.of {p:Proj} {ls:List Lin} (h:rP p ls=true):Right p ls:=by
 intro j x hx
 have hj:=(List.getElem?_eq_some_iff.1 hx).1
 have:=Hr h hj
 rw [List.getElem?_eq_getElem hj] at hx
 cases hx;exact this
theorem Ms {g h:Lg} {s:Infer} (e:nR g s=some h) (hr:Right g.proj g.lines):h.proj=g.proj∧Right h.proj h.lines:=by
 unfold nR at e
 split at e
 ·rename_i hk
  cases e
  simp only [Bc,Bool.and_eq_true,decide_eq_true_eq] at hk
  exact⟨rfl,hr.snoc hk.1⟩
 ·cases e
theorem Bz:∀(f n:Nat) (g:Lg),Right g.proj g.lines→(dW f n g).1.proj=g.proj∧Right g.proj (dW f n g).1.lines
 |0,n,g,h=>by rw [vZ];exact⟨rfl,h⟩
 |f+1,n,g,h=>by
  rw [qL]
  cases hs:oG g with
  |none=>exact⟨rfl,h⟩
  |some k=>
   dsimp only
   have h2:k.proj=g.proj∧Right k.proj k.lines:=by
    unfold oG at hs
    split at hs
    ·cases hs
    ·exact Ms hs h
   have h1:=Bz f (n+1) k h2.2
   rw [h2.1] at h1
   exact h1
theorem IX {h k:Lg} (e:iH h=some k) (hr:Right h.proj h.lines):Right h.proj k.lines:=by
 rw [zl] at e
 split at e
 ·cases e
 ·split at e
  ·rename_i hk
   cases e
   exact (hr.snoc hk.1).snoc hk.2
  ·cases e
theorem Mt (h:Lg) (ls:List Lin) (v:Int) (hr:Right h.proj ls):Right h.proj (iN h ls v).lines:=by
 unfold iN
 split
 ·rename_i hk;exact hr.snoc hk
 ·exact hr
theorem yB {h:Lg} {rec:Int→Lg→Way} (hrec:∀v g,Right g.proj g.lines→Right g.proj (rec v g).lines):∀(xs:List Lit) (ls:List Lin) (v:Int),Right h.proj ls→Right h.proj (fM h rec xs ls v).lines
 |[],ls,v,hr=>Mt h ls v hr
 |x::xs,ls,v,hr=>by
  have hs:Right h.proj (dS h rec x ls v).lines:=by
   cases ht:takeLog (dB h ls) x with
   |none=>rw [iV ht];exact hr
   |some n=>
    rw [iW ht]
    have hp:=kF ht
    have h1:n.proj=h.proj:=hp.1
    have h2:n.lines=ls:=hp.2.2.2
    have:=hrec v n (by rw [h1,h2];exact hr)
    rw [h1] at this;exact this
  rcases hw:dS h rec x ls v with⟨a,b,_|c,_|_⟩
  ·rw [hw] at hs
   rw [iX hw]
   exact yB hrec xs a b hs
  all_goals
   rw [dh hw (by simp)]
   rw [hw] at hs;exact hs
theorem Ki (most:Int):∀(f:Nat) (v:Int) (g:Lg),Right g.proj g.lines→Right g.proj (vis most f v g).lines
 |0,v,g,h=>h
 |f+1,v,g,h=>by
  by_cases e:v=most
  ·subst e;rw [Bn];exact h
  ·rw [sG _ _ _ _ e]
   obtain⟨h1,h2⟩:=Bz 40 0 g h
   generalize (dW 40 0 g).1=k at h1 h2 ⊢
   rw [← h1] at h2 ⊢
   unfold iy
   split
   ·rename_i k' hk;exact IX hk h2
   ·split
    ·exact h2
    ·split
     ·exact h2
     ·exact yB (fun v g hr=>Ki most f v g hr) _ _ _ h2
structure Budget (g:Lg) (most:Int):Prop where
 few:(bW g most).visits≤most
 right:(lJ g.proj (bW g most).log.lines).1=0
 none:¬((bW g most).stopped=true∧(bW g most).found=true)
 more:(bW g most).visits≤(bW g 60).visits
 same:(bW g most).stopped=false→bW g 60=bW g most
theorem budget (g:Lg) (most:Int) (hm:1≤most∧most≤60):Budget g most:=by
 have w1:within most 1 60=true:=within_iff.2 hm
 have w2:within 60 1 60=true:=by decide
 by_cases hk:vG g=true
 ·have e1:bW g most=Qs (dW 40 0 g).1 (vis most (most.toNat+1) 0 g):=by unfold bW;rw [if_pos ⟨hk,w1⟩]
  have e2:bW g 60=Qs (dW 40 0 g).1 (vis 60 ((60:Int).toNat+1) 0 g):=by unfold bW;rw [if_pos ⟨hk,w2⟩]
  have hmore:=OO (m:=most) (m':=60) hm.2 (most.toNat+1) ((60:Int).toNat+1) 0 g (by omega) (by omega) (by omega)
  have hr:Right g.proj g.lines:=Right.of (by simp only [vG,Bool.and_eq_true] at hk;first|exact hk.1.2|exact hk.2.1)
  have hvr:=Ki most (most.toNat+1) 0 g hr
  have hvb:=jW most (most.toNat+1) 0 g (by omega)
  generalize vis most (most.toNat+1) 0 g=w at*
  generalize vis 60 ((60:Int).toNat+1) 0 g=w' at*
  refine⟨by rw [e1];exact hvb.2,?_,?_,by rw [e1,e2];exact hmore.more,fun hs=>?_⟩
  ·rw [e1]
   show (lJ g.proj w.lines).1=0
   rw [OP hvr]
  ·rw [e1]
   rintro⟨h1,h2⟩
   have h1:w.stopped=true:=h1
   have h2:w.found.isSome=true:=h2
   rw [hmore.nof h1] at h2
   cases h2
  ·rw [e1] at hs
   rw [e1,e2,hmore.same hs]
 ·have e1:∀m,bW g m=⟨QZ,⟨[],[]⟩,false,0,false⟩:=fun m=>by unfold bW;rw [if_neg (fun h=>hk h.1)]
  refine⟨by rw [e1];dsimp only;omega,by rw [e1];rfl,by rw [e1];simp,by rw [e1,e1];exact Int.le_refl _,fun _=>by rw [e1,e1]⟩
end Go.Proofs.YtefgamefajmdkaaGreat.Abs
namespace Go.Proofs.YtefgamefajmdkaaGreat.Abs
open Go.Proofs
attribute [local irreducible] bW fC numOf lJ
theorem Hu (code:List Int):(fC code).fine:=by
 intro a ha
 obtain⟨i,hi,rfl⟩:=List.getElem_of_mem ha
 have h:=((xP code).1.aok i _ (List.getElem?_eq_getElem hi)).1
 simp only [cB,Bool.and_eq_true,yO,within_iff] at h
 have:=h.2.1.1.2.2
 unfold lim;omega
theorem Qt (code:List Int):Con 6 [.d (u8s code)] (.d (.bool true)):=by
 refine con Tryz.func6 rfl rfl Tryz.call6 rfl fun hwf=>?_
 simp only [ARs.wf,AR.wf,AV.wf,AV.wfs,lm,lim] at hwf
 by_cases hbig:((code.map (AV.int .u8)).length:Int) > 1048576
 ·(repeat' ((conv=>whnf);first|with_reducible refine Br.yes (decide_eq_true hbig) ?_|refine gA ?_|(refine gB ?_ ?_<;>intro h)|refine gV ?_|intro _))<;>try (conv=>whnf)
  exact fv
 have hf:=Hu code
 have hok:=Lr code
 have BS:=Hw code
 have BN:=Mv code 4 (by decide)
 have hn:0≤numOf code 4∧numOf code 4 < 4:=by
  unfold numOf;have:=je (Af (nP code) 777) 4;exact⟨this.1,this.2 (by decide)⟩
 have hl:GV (fC code)=some ⟨fC code,iR (fC code),[],[]⟩:=by unfold GV;rw [if_pos hok]
 have BL:=OC (fC code) hf
 generalize fC code=p at hf hok BS hl BL
 generalize numOf code 4=n at BN hn
 rw [hl,vX] at BL
 dsimp only [Option.getD,Option.isSome] at BL
 have B:=budget ⟨p,iR p,[],[]⟩ (1+n) ⟨by omega,by omega⟩
 have S1:=DT ⟨p,iR p,[],[]⟩ (1+n) hf
 have S2:=DT ⟨p,iR p,[],[]⟩ 60 hf
 obtain⟨b1,b2,b3,b4,b5⟩:=B
 have BC:=xZ p (bW ⟨p,iR p,[],[]⟩ (1+n)).log.lines hf
 generalize bW ⟨p,iR p,[],[]⟩ (1+n)=F at*
 generalize bW ⟨p,iR p,[],[]⟩ 60=H at*
 dsimp only at b2
 generalize lJ p F.log.lines=q at b2 BC
 obtain⟨q1,q2⟩:=q
 dsimp only at b2
 subst b2
 have hbig2:decide (((code.map (AV.int .u8)).length:Int) > 1048576)=false:=decide_eq_false hbig
 cases hs:F.stopped with
 |true=>
  have hfo:F.found=false:=by
   cases h3:F.found with
   |false=>rfl
   |true=>exact (b3 ⟨hs,h3⟩).elim
  (repeat' ((conv=>whnf);first|with_reducible refine Br.no hbig2 ?_|with_reducible refine Br.no (decide_eq_false (by omega)) ?_|with_reducible refine Br.yes hs ?_|with_reducible refine Br.no hfo ?_|refine gA ?_|(refine gB ?_ ?_<;>intro h)|refine gV ?_|refine gC (BS) ?_|refine gC (BL) ?_|refine gC (BN) ?_|refine gC (S1) ?_|refine gC (S2) ?_|refine gC (BC) ?_|intro _))<;>try (conv=>whnf)
  all_goals exact fv
 |false=>
  have e:=b5 hs
  have LE:=IY F.log
  have SE:=zo F.sched
  rw [e] at S2
  (repeat' ((conv=>whnf);first|with_reducible refine Br.no hbig2 ?_|with_reducible refine Br.no (decide_eq_false (by omega)) ?_|with_reducible refine Br.no hs ?_|with_reducible refine Br.yes (beq_self_eq_true _) ?_|with_reducible refine Br.yes (decide_eq_true rfl) ?_|refine gA ?_|(refine gB ?_ ?_<;>intro h)|refine gV ?_|refine gC (BS) ?_|refine gC (BL) ?_|refine gC (BN) ?_|refine gC (S1) ?_|refine gC (S2) ?_|refine gC (BC) ?_|refine gC (LE) ?_|refine gC (SE) ?_|intro _))<;>try (conv=>whnf)
  all_goals exact fv
end Go.Proofs.YtefgamefajmdkaaGreat.Abs
namespace Go.Proofs.YtefgamefajmdkaaGreat.Abs
open Go.Proofs Go.ChangeShapes Go.WideShapes Go.ChangeAt Go.RowKit
variable {H:Type} {enc:TypeId×Value→H} {P:Program} {w:World} {I:Nat→Prop} {L:Nat} {μ:DataW H→Nat} {N:Nat}
theorem XT {t:Nat} (ht:P.underlying t=some (.int .u8)):Rd enc P w I L μ N t (fun n=>.int .u8 n) (fun _=>True):=by
 intro fuel cs d ps h _
 obtain⟨n,rfl,_,hw⟩:=DataW.trod_int ht h
 refine⟨n,trivial,?_⟩
 simp [AV.cells,aK,aF]
end Go.Proofs.YtefgamefajmdkaaGreat.Abs
