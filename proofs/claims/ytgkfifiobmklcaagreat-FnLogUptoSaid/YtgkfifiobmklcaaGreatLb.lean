/- Proofs that are drawn are right. -/
import Derived.Test.YtgkfifiobmklcaaGreatBt
import Derived.Test.YtgkfifiobmklcaaGreatBud
import Derived.Test.YtgkfifiobmklcaaGreatBs
import Derived.Test.YtgkfifiobmklcaaGreatC51
import Derived.Test.YtgkfifiobmklcaaGreatVis
set_option linter.all false
set_option maxRecDepth 20000
set_option maxHeartbeats 0
namespace Go.Proofs.YtgkfifiobmklcaaGreat.Abs
open Go.Proofs
attribute [local irreducible] refutes dW bq aH
theorem rA (code:List Int):Small (bZ code):=by
 obtain⟨h1,h2⟩:=kT code
 have ha:=h1.acts
 refine⟨rO code,by omega,fun k hk=>?_⟩
 exact (h1.aok k _ (gM hk)).2.2
theorem vQ {p:Proj} {ls:List Lin} (h:Right p ls):mE p ls=true:=by
 unfold mE;rw [Va h];rfl
theorem WI {p:Proj} {ls:List Lin} (h:Right p ls) {s:aK} (hs:dF p s=true):nW s (ls.map Lin.clause):=Om (vQ h) hs
end Go.Proofs.YtgkfifiobmklcaaGreat.Abs
namespace Go.Proofs.YtgkfifiobmklcaaGreat.Abs
open Go.Proofs
theorem Gg {p:Proj} {b:Dom} (hf:ak p b=true) {l:Lit} (hl:bJ p l=true):∃k:Nat,l.act=k∧k < p.acts.length∧dO b l.act=true:=by
 obtain⟨_,h2,_⟩:=kH hl
 obtain⟨h4,h5⟩:=fE h2
 obtain⟨_,l1,l2,l3⟩:=aT hf
 refine⟨l.act.toNat,by omega,h5,?_⟩
 simp only [dO,Bool.and_eq_true,decide_eq_true_eq];omega
theorem uW {y n:Bool} (h:valueOf y n=1):y=true:=by
 cases y<;>cases n<;>simp_all [valueOf]
theorem jr {y n:Bool} (h:valueOf y n= -1):y=false∧n=true:=by
 cases y<;>cases n<;>simp_all [valueOf]
theorem yx {y n:Bool} (hy:y=false) (hn:n=true):valueOf y n= -1:=by subst hy hn;rfl
theorem KM {m:List Int} {v:Int} (hs:nT m=true) (hne:m≠[]) (h:∀x∈m,x=v):m= [v]:=by
 have hp:=tu hs
 cases m with
 |nil=>exact absurd rfl hne
 |cons a r=>
  obtain rfl:=h a (List.mem_cons_self ..)
  cases r with
  |nil=>rfl
  |cons c r=>
   have:=h c (List.mem_cons_of_mem _ (List.mem_cons_self ..))
   rw [List.pairwise_cons] at hp
   have:=hp.1 c (List.mem_cons_self ..)
   omega
theorem aah {p:Proj} {b x:Dom} {l:Lit} (hf:ak p b=true) (hx:ak p x=true) (he:aL x=false) (hs:bn x b p.acts.length) (hl:bJ p l=true) (h:litValue b l= -1):litValue x l= -1:=by
 obtain⟨k,e,hk,hd⟩:=Gg hf hl
 obtain⟨_,_,_,hd'⟩:=Gg hx hl
 obtain⟨g1,g2,g3⟩:=hs k hk
 obtain⟨⟨⟨m0,hm0,_⟩,_⟩,hxy⟩:=gU hx he (bn.refl _ _) hk
 obtain⟨a',x',y',m',gx⟩:=dL hx hk
 have e3:=getD_some (d:=[]) gx.modes
 have hmo:=gx.mok
 rw [← e3] at hmo
 unfold litValue at h ⊢
 rw [if_pos hd] at h
 rw [if_pos hd']
 dsimp only at h ⊢
 rw [e,Int.toNat_natCast] at h ⊢
 split at h
 ·rename_i q;rw [if_pos q]
  obtain⟨h1,h2⟩:=jr h
  have h2:=of_decide_eq_true h2
  exact yx (decide_eq_false (by omega)) (decide_eq_true (by omega))
 rename_i q1;rw [if_neg q1]
 split at h
 ·rename_i q;rw [if_pos q]
  obtain⟨h1,h2⟩:=jr h
  have h2:=of_decide_eq_true h2
  exact yx (decide_eq_false (by omega)) (decide_eq_true (by omega))
 rename_i q2;rw [if_neg q2]
 split at h
 ·rename_i q;rw [if_pos q]
  obtain⟨h1,h2⟩:=jr h
  simp only [Bool.not_eq_true', ← Bool.not_eq_true,List.contains_iff_mem] at h2
  refine yx (decide_eq_false fun hh=>h2 (g3 _ (by rw [hh];exact List.mem_cons_self ..))) ?_
  simp only [Bool.not_eq_true', ← Bool.not_eq_true,List.contains_iff_mem]
  exact fun hh=>h2 (g3 _ hh)
 rename_i q3;rw [if_neg q3]
 split at h
 ·rename_i q;rw [if_pos q]
  obtain⟨h1,h2⟩:=jr h
  have h2:=of_decide_eq_true h2
  have hone:x.modes.getD k []= [l.val]:=KM hmo (List.ne_nil_of_mem hm0) fun z hz=>by
   have:=g3 z hz
   rw [h2] at this
   exact List.mem_singleton.1 this
  refine yx ?_ (decide_eq_true hone)
  rw [hone];simp
 ·cases h
theorem uX {b:Dom} {l:Lit} (hd:dO b l.act=true) (q:l.kind=1):restrict b l= { b with lo:=b.lo.set l.act.toNat (max (b.lo.getD l.act.toNat 0) (clamped l.val)) }:=by
 unfold restrict;rw [if_pos hd];dsimp only;rw [if_pos q]
theorem uY {b:Dom} {l:Lit} (hd:dO b l.act=true) (q:l.kind=2):restrict b l= { b with hi:=b.hi.set l.act.toNat (min (b.hi.getD l.act.toNat 0) (clamped l.val)) }:=by
 unfold restrict;rw [if_pos hd];dsimp only;rw [if_neg (by omega),if_pos q]
theorem uZ {b:Dom} {l:Lit} (hd:dO b l.act=true) (q:l.kind=3):restrict b l= { b with modes:=b.modes.set l.act.toNat ((b.modes.getD l.act.toNat []).filter fun n=>decide (n=clamped l.val)) }:=by
 unfold restrict;rw [if_pos hd];dsimp only;rw [if_neg (by omega),if_neg (by omega),if_pos q]
theorem vg {b:Dom} {l:Lit} (hd:dO b l.act=true) (q:l.kind=4):restrict b l= { b with modes:=b.modes.set l.act.toNat ((b.modes.getD l.act.toNat []).filter fun n=>decide (n≠clamped l.val)) }:=by
 unfold restrict;rw [if_pos hd];dsimp only;rw [if_neg (by omega),if_neg (by omega),if_neg (by omega),if_pos q]
theorem abx {p:Proj} {b:Dom} {l:Lit} (hf:ak p b=true) (hl:bJ p l=true) (h:litValue b l=1):bn b (restrict b l) p.acts.length:=by
 obtain⟨k,e,hk,hd⟩:=Gg hf hl
 obtain⟨_,_,hv1,hv2,hkind⟩:=kH hl
 obtain⟨_,l1,l2,l3⟩:=aT hf
 have hcl:=gT (v:=l.val) (by omega)
 unfold litValue at h
 rw [if_pos hd] at h
 dsimp only at h
 have R:∀c:Dom,(c.lo.getD k 0≤b.lo.getD k 0∧b.hi.getD k 0≤c.hi.getD k 0∧∀m∈b.modes.getD k [],m∈c.modes.getD k [])→(∀j,j≠k→c.lo.getD j 0=b.lo.getD j 0∧c.hi.getD j 0=b.hi.getD j 0∧c.modes.getD j []=b.modes.getD j [])→bn b c p.acts.length:=by
  intro c h1 h2 j hj
  by_cases ej:j=k
  ·subst ej;exact h1
  ·obtain⟨a1,a2,a3⟩:=h2 j ej
   rw [a1,a2,a3]
   exact⟨Int.le_refl _,Int.le_refl _,fun _ h=>h⟩
 rcases hkind with q|q|q|q
 ·rw [if_pos q] at h
  have h1:=of_decide_eq_true (uW h)
  rw [uX hd q,hcl]
  rw [e,Int.toNat_natCast] at h1 ⊢
  refine R _ ⟨?_,Int.le_refl _,fun _ h=>h⟩ fun j hj=>⟨getD_set_ne (fun h=>hj h.symm),rfl,rfl⟩
  dsimp only
  rw [aR (by omega)];omega
 ·rw [if_neg (by omega),if_pos q] at h
  have h1:=of_decide_eq_true (uW h)
  rw [uY hd q,hcl]
  rw [e,Int.toNat_natCast] at h1 ⊢
  refine R _ ⟨Int.le_refl _,?_,fun _ h=>h⟩ fun j hj=>⟨rfl,getD_set_ne (fun h=>hj h.symm),rfl⟩
  dsimp only
  rw [aR (by omega)];omega
 ·rw [if_neg (by omega),if_neg (by omega),if_pos q] at h
  have h1:=of_decide_eq_true (uW h)
  rw [uZ hd q,hcl]
  rw [e,Int.toNat_natCast] at h1 ⊢
  refine R _ ⟨Int.le_refl _,Int.le_refl _,fun m hm=>?_⟩ fun j hj=>⟨rfl,rfl,getD_set_ne (fun h=>hj h.symm)⟩
  dsimp only
  rw [aR (by omega),List.mem_filter]
  refine⟨hm,decide_eq_true ?_⟩
  rw [h1] at hm
  exact List.mem_singleton.1 hm
 ·rw [if_neg (by omega),if_neg (by omega),if_neg (by omega),if_pos q] at h
  have h1:=uW h
  rw [vg hd q,hcl]
  rw [e,Int.toNat_natCast] at h1 ⊢
  simp only [Bool.not_eq_true', ← Bool.not_eq_true,List.contains_iff_mem] at h1
  refine R _ ⟨Int.le_refl _,Int.le_refl _,fun m hm=>?_⟩ fun j hj=>⟨rfl,rfl,getD_set_ne (fun h=>hj h.symm)⟩
  dsimp only
  rw [aR (by omega),List.mem_filter]
  exact⟨hm,decide_eq_true fun hh=>h1 (by rw [← hh];exact hm)⟩
theorem Ou {p:Proj} {b:Dom} {l:Lit} (hf:ak p b=true) (he:aL b=false) (hl:bJ p l=true) (h:litValue b l≠ -1):aL (restrict b l)=false:=by
 obtain⟨k,e,hk,hd⟩:=Gg hf hl
 obtain⟨_,_,hv1,hv2,hkind⟩:=kH hl
 obtain⟨_,l1,l2,l3⟩:=aT hf
 have hcl:=gT (v:=l.val) (by omega)
 have hfr:=nE (l:=l) hf
 obtain⟨⟨⟨m0,hm0,_⟩,_⟩,hxy⟩:=gU hf he (bn.refl _ _) hk
 have full:∀j,j < p.acts.length→b.lo.getD j 0≤b.hi.getD j 0∧b.modes.getD j []≠[]:=fun j hj=>by
  obtain⟨⟨⟨m1,hm1,_⟩,_⟩,hx1⟩:=gU hf he (bn.refl _ _) hj
  exact⟨hx1,List.ne_nil_of_mem hm1⟩
 have R:∀c:Dom,ak p c=true→(∀j,j < p.acts.length→c.lo.getD j 0≤c.hi.getD j 0∧c.modes.getD j []≠[])→aL c=false:=by
  intro c hc hj
  obtain⟨_,c1,c2,c3⟩:=aT hc
  simp only [aL,Bool.or_eq_false_iff,List.any_eq_false,List.mem_range]
  refine⟨fun i hi=>?_,fun m hm=>?_⟩
  ·have:=(hj i (by omega)).1
   unfold jI
   rw [List.getElem?_eq_getElem (by omega:i < c.lo.length),List.getElem?_eq_getElem (by omega:i < c.hi.length)]
   rw [List.getD_eq_getElem?_getD,List.getElem?_eq_getElem (by omega:i < c.lo.length),List.getD_eq_getElem?_getD,List.getElem?_eq_getElem (by omega:i < c.hi.length)] at this
   simp only [Option.getD_some] at this
   simp only [decide_eq_true_eq];omega
  ·obtain⟨i,hi,rfl⟩:=List.getElem_of_mem hm
   have:=(hj i (by omega)).2
   rw [List.getD_eq_getElem?_getD,List.getElem?_eq_getElem hi] at this
   simp only [Option.getD_some] at this
   simp only [decide_eq_true_eq]
   have:=List.length_pos_iff.2 this
   omega
 refine R _ hfr ?_
 unfold litValue at h
 rw [if_pos hd] at h
 dsimp only at h
 have nv:∀{y n:Bool},valueOf y n≠ -1→n=true→y=true:=fun {y n} h hn=>by cases y<;>cases n<;>simp_all [valueOf]
 intro j hj
 by_cases ej:j=k
 rotate_left
 ·have hne:l.act.toNat≠j:=by omega
  rcases hkind with q|q|q|q
  ·rw [uX hd q];dsimp only;rw [getD_set_ne hne];exact full j hj
  ·rw [uY hd q];dsimp only;rw [getD_set_ne hne];exact full j hj
  ·rw [uZ hd q];dsimp only;rw [getD_set_ne hne];exact full j hj
  ·rw [vg hd q];dsimp only;rw [getD_set_ne hne];exact full j hj
 subst ej
 have ea:l.act.toNat=j:=by omega
 obtain⟨f1,f2⟩:=full j hj
 rcases hkind with q|q|q|q
 ·rw [if_pos q] at h
  rw [ea] at h
  rw [uX hd q,hcl,ea]
  dsimp only
  rw [aR (by omega)]
  refine⟨?_,f2⟩
  by_cases hb:b.hi.getD j 0 < l.val
  ·have:=of_decide_eq_true (nv h (decide_eq_true hb));omega
  ·omega
 ·rw [if_neg (by omega),if_pos q] at h
  rw [ea] at h
  rw [uY hd q,hcl,ea]
  dsimp only
  rw [aR (by omega)]
  refine⟨?_,f2⟩
  by_cases hb:b.lo.getD j 0 > l.val
  ·have:=of_decide_eq_true (nv h (decide_eq_true hb));omega
  ·omega
 ·rw [if_neg (by omega),if_neg (by omega),if_pos q] at h
  rw [ea] at h
  rw [uZ hd q,hcl,ea]
  dsimp only
  rw [aR (by omega)]
  refine⟨f1,?_⟩
  have hm:l.val∈b.modes.getD j []:=by
   by_cases hc:l.val∈b.modes.getD j []
   ·exact hc
   ·have:=of_decide_eq_true (nv h (by simp only [Bool.not_eq_true', ← Bool.not_eq_true,List.contains_iff_mem];exact hc))
    rw [this];exact List.mem_cons_self ..
  exact List.ne_nil_of_mem (List.mem_filter.2 ⟨hm,decide_eq_true rfl⟩)
 ·rw [if_neg (by omega),if_neg (by omega),if_neg (by omega),if_pos q] at h
  rw [ea] at h
  rw [vg hd q,hcl,ea]
  dsimp only
  rw [aR (by omega)]
  refine⟨f1,fun hnil=>?_⟩
  rw [List.filter_eq_nil_iff] at hnil
  obtain⟨a',x',y',m',gx⟩:=dL hf hj
  have e3:=getD_some (d:=[]) gx.modes
  have hmo:=gx.mok
  rw [← e3] at hmo
  have hone:b.modes.getD j []= [l.val]:=KM hmo f2 fun z hz=>by
   have:=hnil z hz
   simpa using this
  have:=nv h (decide_eq_true hone)
  rw [hone] at this
  simp at this
open Go.Proofs
theorem DN {L:List (List Lit)} {b:Dom} {r:Dom×Bool} (h:iP L b= .inl r):r.1=b∧(r.2=false→aL b=false∧∀c∈L,bites b c=false):=by
 unfold iP at h
 split at h
 ·cases h;exact⟨rfl,nofun⟩
 ·rename_i he
  split at h
  ·rename_i hn
   cases h
   rw [List.find?_eq_none] at hn
   exact⟨rfl,fun _=>⟨by simpa using he,fun c hc=>by simpa using hn c hc⟩⟩
  ·split at h
   ·cases h;exact⟨rfl,nofun⟩
   ·cases h
theorem yA {p:Proj} {L:List (List Lit)} {b c:Dom} (hf:ak p b=true) (h:iP L b= .inr c):ak p c=true∧gD c < gD b∧bn c b p.acts.length:=by
 unfold iP at h
 split at h
 ·cases h
 ·split at h
  ·cases h
  ·rename_i l hl
   split at h
   ·cases h
   ·rename_i hs
    cases h
    obtain⟨g1,g2⟩:=Jl hf (List.find?_some hl) hs
    exact⟨g1,g2,kI b _ (jq hf)⟩
theorem Np {p:Proj} {L:List (List Lit)}:∀(n m:Nat) (b:Dom),ak p b=true→gD b < n→gD b < m→sW L n b=sW L m b
 |0,_,_,_,h,_=>by omega
 |_+1,0,_,_,_,h=>by omega
 |n+1,m+1,b,hf,h1,h2=>by
  rw [sW,sW]
  cases hu:iP L b with
  |inl r=>rfl
  |inr c=>
   obtain⟨g1,g2,_⟩:=yA hf hu
   exact Np n m c g1 (by omega) (by omega)
def eO (L:List (List Lit)) (b:Dom):Dom×Bool:=sW L (gD b+1) b
theorem lV {p:Proj} {L:List (List Lit)} {b:Dom} (hf:ak p b=true):eO L b=match iP L b with| .inl r=>r| .inr c=>eO L c:=by
 unfold eO
 rw [sW]
 cases hu:iP L b with
 |inl r=>rfl
 |inr c=>
  obtain⟨g1,g2,_⟩:=yA hf hu
  exact Np _ _ c g1 (by omega) (by omega)
theorem Ap {p:Proj} {L:List (List Lit)} {b:Dom} (hf:ak p b=true):ji p L b=eO L b:=by rw [ji,if_pos hf];rfl
theorem Nq {p:Proj} {L:List (List Lit)}:∀(n:Nat) (b:Dom),gD b < n→ak p b=true→ak p (eO L b).1=true∧bn (eO L b).1 b p.acts.length∧iP L (eO L b).1= .inl (eO L b)
 |0,_,h,_=>by omega
 |n+1,b,h,hf=>by
  rw [lV hf]
  cases hu:iP L b with
  |inl r=>
   dsimp only
   rw [(DN hu).1]
   exact⟨hf,bn.refl _ _,hu⟩
  |inr c=>
   dsimp only
   obtain⟨g1,g2,g3⟩:=yA hf hu
   obtain⟨k1,k2,k3⟩:=Nq n c (by omega) g1
   exact⟨k1,k2.trans g3,k3⟩
theorem wO {p:Proj} {L:List (List Lit)} {b:Dom} (hf:ak p b=true):ak p (eO L b).1=true∧bn (eO L b).1 b p.acts.length∧((eO L b).2=false→aL (eO L b).1=false∧∀c∈L,bites (eO L b).1 c=false):=by
 obtain⟨h1,h2,h3⟩:=Nq (L:=L) (gD b+1) b (by omega) hf
 exact⟨h1,h2,(DN h3).2⟩
theorem Vb {L:List (List Lit)} {c:List Lit} {b:Dom}:iP L b= .inl (b,false)∨iP (L++[c]) b=iP L b:=by
 unfold iP
 split
 ·exact .inr rfl
 ·cases hf:L.find? (bites b) with
  |none=>exact .inl rfl
  |some l=>rw [List.find?_append,hf];exact .inr rfl
theorem JA {p:Proj} {L:List (List Lit)} {c:List Lit}:∀(n:Nat) (b:Dom),gD b < n→ak p b=true→((eO L b).2=true→eO (L++[c]) b=eO L b)∧((eO L b).2=false→eO (L++[c]) b=eO (L++[c]) (eO L b).1)
 |0,_,h,_=>by omega
 |n+1,b,h,hf=>by
  rcases Vb (L:=L) (c:=c) (b:=b) with hu|hu
  ·have e:eO L b=(b,false):=by rw [lV hf,hu]
   rw [e]
   exact⟨nofun,fun _=>rfl⟩
  ·rw [lV (L:=L++[c]) hf,hu,lV (L:=L) hf]
   cases hv:iP L b with
   |inl r=>
    dsimp only
    refine⟨fun _=>rfl,fun h2=>?_⟩
    have e:=(DN hv).1
    rw [e,lV (L:=L++[c]) hf,hu,hv]
   |inr d=>
    dsimp only
    obtain⟨g1,g2,_⟩:=yA hf hv
    exact JA n d (by omega) g1
theorem DR {p:Proj} {L:List (List Lit)} (c:List Lit) {b:Dom} (hf:ak p b=true):((eO L b).2=true→eO (L++[c]) b=eO L b)∧((eO L b).2=false→eO (L++[c]) b=eO (L++[c]) (eO L b).1):=JA (gD b+1) b (by omega) hf
theorem qA {b:Dom}:∀(w:List Lit) (n:Int) (x:Lit),(aO b w n x).1=1∨(aO b w n x).1=0∨(aO b w n x).1= -1
 |[],n,x=>by rw [aO];split; · exact .inr (.inr rfl)
             split<;>exact .inr (.inl rfl)
 |y::w,n,x=>by
  rw [aO]
  split
  ·exact .inl rfl
  ·split
   ·exact qA w _ _
   ·exact qA w _ _
theorem YF {b:Dom} {w:List Lit} (h:∀y∈w,litValue b y= -1):bites b w=true:=by
 unfold bites
 rw [WJ h]
 rfl
theorem YG {b:Dom} {w:List Lit} {l:Lit} (hl:litValue b l≠1) (hz:bM l bV=false) (h:∀y∈w,y=l∨litValue b y= -1) (hp:w.Pairwise (· ≠ ·)):bites b w=true:=by
 obtain⟨t1,t2⟩:=yB hl w 0 bV h hp (.inl rfl)
 unfold bites status
 rcases qA (b:=b) w 0 bV with h3|h3|h3
 ·exact absurd h3 t1
 ·rw [t2 h3,h3,hz];rfl
 ·rw [h3];rfl
theorem aai {p:Proj} {b:Dom} {l:Lit} (hf:ak p b=true) (he:aL b=false) (hl:bJ p l=true) (h:litValue b l= -1):bn b (restrict b (negate l)) p.acts.length:=by
 obtain⟨k,e,hk,hd⟩:=Gg hf hl
 obtain⟨_,_,hv1,hv2,hkind⟩:=kH hl
 obtain⟨_,l1,l2,l3⟩:=aT hf
 obtain⟨⟨⟨m0,hm0,_⟩,_⟩,hxy⟩:=gU hf he (bn.refl _ _) hk
 have ea:l.act.toNat=k:=by omega
 have R:∀c:Dom,(c.lo.getD k 0≤b.lo.getD k 0∧b.hi.getD k 0≤c.hi.getD k 0∧∀m∈b.modes.getD k [],m∈c.modes.getD k [])→(∀j,j≠k→c.lo.getD j 0=b.lo.getD j 0∧c.hi.getD j 0=b.hi.getD j 0∧c.modes.getD j []=b.modes.getD j [])→bn b c p.acts.length:=by
  intro c h1 h2 j hj
  by_cases ej:j=k
  ·subst ej;exact h1
  ·obtain⟨a1,a2,a3⟩:=h2 j ej
   rw [a1,a2,a3]
   exact⟨Int.le_refl _,Int.le_refl _,fun _ h=>h⟩
 have w:within l.val (-100000) 100000=true:=within_iff.2 (by omega)
 unfold litValue at h
 rw [if_pos hd] at h
 dsimp only at h
 rw [ea] at h
 rcases hkind with q|q|q|q
 ·have en:negate l=⟨2,l.act,l.val - 1⟩:=by unfold negate;rw [if_pos w,if_pos q]
  rw [if_pos q] at h
  have h2:=of_decide_eq_true (jr h).2
  rw [en,uY (l:=⟨2,l.act,l.val - 1⟩) hd rfl]
  dsimp only
  rw [gT (v:=l.val - 1) (by omega),ea]
  refine R _ ⟨Int.le_refl _,?_,fun _ h=>h⟩ fun j hj=>⟨rfl,getD_set_ne (fun h=>hj h.symm),rfl⟩
  dsimp only
  rw [aR (by omega)];omega
 ·have en:negate l=⟨1,l.act,l.val+1⟩:=by unfold negate;rw [if_pos w,if_neg (by omega),if_pos q]
  rw [if_neg (by omega),if_pos q] at h
  have h2:=of_decide_eq_true (jr h).2
  rw [en,uX (l:=⟨1,l.act,l.val+1⟩) hd rfl]
  dsimp only
  rw [gT (v:=l.val+1) (by omega),ea]
  refine R _ ⟨?_,Int.le_refl _,fun _ h=>h⟩ fun j hj=>⟨getD_set_ne (fun h=>hj h.symm),rfl,rfl⟩
  dsimp only
  rw [aR (by omega)];omega
 ·have en:negate l=⟨4,l.act,l.val⟩:=by unfold negate;rw [if_pos w,if_neg (by omega),if_neg (by omega),if_pos q]
  rw [if_neg (by omega),if_neg (by omega),if_pos q] at h
  have h2:=(jr h).2
  simp only [Bool.not_eq_true', ← Bool.not_eq_true,List.contains_iff_mem] at h2
  rw [en,vg (l:=⟨4,l.act,l.val⟩) hd rfl]
  dsimp only
  rw [gT (v:=l.val) (by omega),ea]
  refine R _ ⟨Int.le_refl _,Int.le_refl _,fun m hm=>?_⟩ fun j hj=>⟨rfl,rfl,getD_set_ne (fun h=>hj h.symm)⟩
  dsimp only
  rw [aR (by omega),List.mem_filter]
  exact⟨hm,decide_eq_true fun hh=>h2 (by rw [← hh];exact hm)⟩
 ·have en:negate l=⟨3,l.act,l.val⟩:=by unfold negate;rw [if_pos w,if_neg (by omega),if_neg (by omega),if_neg (by omega),if_pos q]
  rw [if_neg (by omega),if_neg (by omega),if_neg (by omega),if_pos q] at h
  have h2:=of_decide_eq_true (jr h).2
  rw [en,uZ (l:=⟨3,l.act,l.val⟩) hd rfl]
  dsimp only
  rw [gT (v:=l.val) (by omega),ea]
  refine R _ ⟨Int.le_refl _,Int.le_refl _,fun m hm=>?_⟩ fun j hj=>⟨rfl,rfl,getD_set_ne (fun h=>hj h.symm)⟩
  dsimp only
  rw [aR (by omega),List.mem_filter]
  rw [h2] at hm
  exact⟨by rw [h2];exact hm,decide_eq_true (List.mem_singleton.1 hm)⟩
end Go.Proofs.YtgkfifiobmklcaaGreat.Abs
namespace Go.Proofs.YtgkfifiobmklcaaGreat.Abs
open Go.Proofs
theorem Gh {n:Nat}:∀(l:List Lit) (b:Dom),pK b n→pK (l.foldl restrict b) n∧bn (l.foldl restrict b) b n
 |[],b,h=>⟨h,bn.refl _ _⟩
 |y::l,b,h=>by
  obtain⟨h1,h2⟩:=Gh l (restrict b y) (fV h y)
  exact⟨h1,h2.trans (kI b y h)⟩
theorem PY {n:Nat}:∀(l:List Lit) (b:Dom),pK b n→∀x∈l,bn (l.foldl restrict b) (restrict b x) n
 |[],b,h,x,hx=>by cases hx
 |y::l,b,h,x,hx=>by
  have hl:=fV h y
  obtain⟨h1,h2⟩:=Gh l (restrict b y) hl
  rcases List.mem_cons.1 hx with rfl|hx
  ·exact h2
  ·exact kJ h hl (h2.trans (kI b y h)) (PY l (restrict b y) hl x hx)
theorem PZ {n:Nat} {a b0:Dom} (h0:pK b0 n):∀(L:List Lit) (b:Dom),pK b n→bn a b n→(∀x∈L,bn a (restrict b0 x) n)→bn a (L.foldl restrict b) n
 |[],b,_,h,_=>h
 |y::L,b,hb,h,hx=>PZ h0 L (restrict b y) (fV hb y) (kJ hb h0 h (hx y (List.mem_cons_self ..))) fun x h=>hx x (List.mem_cons_of_mem _ h)
theorem Qb {p:Proj}:∀(l:List Lit) (b:Dom),ak p b=true→ak p (l.foldl restrict b)=true
 |[],b,h=>h
 |y::l,b,h=>Qb l _ (nE h y)
theorem Gi:∀{l m:List Int},l.Pairwise (· < ·)→m.Pairwise (· < ·)→(∀x,x∈l↔x∈m)→l=m
 |[],[],_,_,_=>rfl
 |[],y::m,_,_,h=>by have:=(h y).2 (List.mem_cons_self ..);cases this
 |x::l,[],_,_,h=>by have:=(h x).1 (List.mem_cons_self ..);cases this
 |x::l,y::m,hl,hm,h=>by
  rw [List.pairwise_cons] at hl hm
  have e:x=y:=by
   rcases List.mem_cons.1 ((h x).1 (List.mem_cons_self ..)) with e|hx
   ·exact e
   ·rcases List.mem_cons.1 ((h y).2 (List.mem_cons_self ..)) with e|hy
    ·exact e.symm
    ·have:=hm.1 x hx;have:=hl.1 y hy;omega
  subst e
  congr 1
  refine Gi hl.2 hm.2 fun z=>⟨fun hz=>?_,fun hz=>?_⟩
  ·rcases List.mem_cons.1 ((h z).1 (List.mem_cons_of_mem _ hz)) with e|hz'
   ·subst e;have:=hl.1 z hz;omega
   ·exact hz'
  ·rcases List.mem_cons.1 ((h z).2 (List.mem_cons_of_mem _ hz)) with e|hz'
   ·subst e;have:=hm.1 z hz;omega
   ·exact hz'
theorem aaj {p:Proj} {a b:Dom} (ha:ak p a=true) (hb:ak p b=true) (h1:bn a b p.acts.length) (h2:bn b a p.acts.length):a=b:=by
 obtain⟨_,a1,a2,a3⟩:=aT ha
 obtain⟨_,b1,b2,b3⟩:=aT hb
 have G:∀{l m:List Int} {i:Nat} (h:i < l.length) (h':i < m.length),l.getD i 0=m.getD i 0→l[i]=m[i]:=fun h h' e=>by
  simpa [List.getD_eq_getElem?_getD,List.getElem?_eq_getElem h,List.getElem?_eq_getElem h'] using e
 obtain⟨alo,ahi,amo⟩:=a
 obtain⟨blo,bhi,bmo⟩:=b
 dsimp only at a1 a2 a3 b1 b2 b3
 have e1:alo=blo:=List.ext_getElem (by omega) fun i h h'=>G h h' (by have:=(h1 i (by omega)).1;have:=(h2 i (by omega)).1;dsimp only at*;omega)
 have e2:ahi=bhi:=List.ext_getElem (by omega) fun i h h'=>G h h' (by have:=(h1 i (by omega)).2.1;have:=(h2 i (by omega)).2.1;dsimp only at*;omega)
 have e3:amo=bmo:=List.ext_getElem (by omega) fun i h h'=>by
  obtain⟨_,_,_,m,g⟩:=dL ha (k:=i) (by omega)
  obtain⟨_,_,_,m',g'⟩:=dL hb (k:=i) (by omega)
  have q:=g.modes
  have q':=g'.modes
  dsimp only at q q'
  rw [List.getElem?_eq_getElem h,Option.some.injEq] at q
  rw [List.getElem?_eq_getElem h',Option.some.injEq] at q'
  have s1:=(h1 i (by omega)).2.2
  have s2:=(h2 i (by omega)).2.2
  rw [getD_some g.modes,getD_some g'.modes] at s1 s2
  rw [q,q']
  exact Gi (tu g.mok) (tu g'.mok) fun x=>⟨s1 x,s2 x⟩
 subst e1 e2 e3;rfl
def dI (p:Proj) (l:List Lit):Dom:=l.foldl restrict (aW p)
theorem wP {p:Proj} (hp:aG p=true) (l:List Lit):ak p (dI p l)=true:=Qb l _ (FX hp)
theorem aak {p:Proj} (hp:aG p=true) {l:List Lit} (hl:∀x∈l,bJ p x=true):fq p (bH (l.map negate))=dI p l:=by
 have hi:=jo hp
 have hn:=(eB (l.map negate)).2
 have nn:∀x∈l,negate (negate x)=x:=fun x hx=>by
  obtain⟨_,_,h1,h2,h3⟩:=kH (hl x hx)
  exact FV h3 (by omega)
 refine aaj (uS hp _) (wP hp l) (PZ hi l (aW p) hi (nX _ _ hi).2 fun x hx=>?_) (rU hi _ (aW p) hi (Gh l _ hi).2 fun y hy=>?_)
 ·have:=pG (bH (l.map negate)) (aW p) hi (negate x) ((hn _).2 (List.mem_map.2 ⟨x,hx,rfl⟩))
  rwa [nn x hx] at this
 ·obtain⟨x,hx,rfl⟩:=List.mem_map.1 ((hn y).1 hy)
  rw [nn x hx]
  exact PY l _ hi x hx
theorem aeh {p:Proj} {b:Dom} (h:¬(dQ p b).isSome=true):∀r∈bB p b,refutes p b r=false:=by
 unfold dQ at h
 split at h
 ·exact absurd rfl h
 ·intro r hr
  cases e:refutes p b r with
  |false=>rfl
  |true=>
   exfalso
   apply h
   rw [List.find?_isSome]
   exact⟨r,hr,e⟩
structure afe (p:Proj) (b:Dom) (s:Infer):Prop where
 full:aL b=false
 form:ak p b=true
 lok:bJ p s.lit=true
 opn:litValue b s.lit≠ -1
 mem:∀y∈s.clause,y=s.lit∨litValue b y= -1
 pw:s.clause.Pairwise eH
 fol:follows p s.rule s.clause=true
 st:status b s.clause=(0,s.lit)
theorem WK {p:Proj} {b:Dom} (hf:ak p b=true) (he:aL b=false) (hin:vP p b) {c:List Lit} (hc:∀x∈c,bJ p x=true) (h:∀x∈c,litValue b x= -1):bn b (fq p c) p.acts.length:=by
 have hi:=jo (aT hf).1
 refine rU hi c (aW p) hi hin fun x hx=>?_
 exact kJ hi (jq hf) hin (aai hf he (hc x hx) (h x hx))
theorem Nr {p:Proj} {b:Dom} {s:Infer} (hs:Small p) (hin:vP p b) (h:bq p b=some s):afe p b s:=by
 have hu:=(tT h).1
 have hf:=xZ hu
 have he:aL b=false:=by
  simp only [usable,Bool.and_eq_true,Bool.not_eq_true'] at hu;exact hu.2
 unfold bq at h
 split at h
 ·cases h
 ·rename_i hno
  obtain⟨r,hr,h1⟩:=List.exists_of_findSome?_eq_some h
  have hnr:=aeh hno r hr
  unfold uQ at h1
  obtain⟨a,ha,h2⟩:=List.exists_of_findSome?_eq_some h1
  obtain⟨k,rfl,hk⟩:=xY ha
  unfold Bg at h2
  rw [Int.toNat_natCast] at h2
  obtain⟨l,hl,rfl⟩:=Option.map_eq_some_iff.1 h2
  have hm:l∈mW p b r k:=List.mem_of_mem_head? hl
  obtain⟨q1,q2⟩:=tZ hf hin hk hm
  have ho:=JB hf hk hm
  have hfo:=DJ hs hf q1 q2
  have hx:(dW p b r l).1=qc p r (fun x=>bM x l) (bH (nN p b++[l])):=by unfold dW;rw [if_pos ⟨q1,q2⟩]
  have hmem:∀y∈(dW p b r l).1,y=l∨litValue b y= -1:=by
   intro y hy
   rw [hx] at hy
   have h2:=(Il (p:=p) (r:=r) (keeps:=fun x=>bM x l) (bH (nN p b++[l])) (bH (nN p b++[l]))).1 y hy
   rcases List.mem_append.1 (((eB (nN p b++[l])).2 y).1 h2) with h3|h3
   ·exact .inr (Ns hf he y h3)
   ·exact .inl (List.mem_singleton.1 h3)
  have hpw:(dW p b r l).1.Pairwise eH:=by
   rw [hx];exact JC _ _ (eB (nN p b++[l])).1
  have aff:litValue b l≠ -1:=fun e=>by
   have:=pF hf (aai hf he q1 e) q2
   rw [hnr] at this;cases this
  generalize (dW p b r l).1=w at hfo hmem hpw
  obtain⟨t1,t2⟩:=yB ho w 0 bV hmem (Vd hpw) (.inl rfl)
  refine⟨he,hf,q1,aff,hmem,hpw,hfo,?_⟩
  have hck:iO p w=true∧refutes p (fq p w) r=true:=by simpa only [follows,Bool.and_eq_true] using hfo
  rcases qA (b:=b) w 0 bV with h3|h3|h3
  ·exact absurd h3 t1
  ·exact Prod.ext h3 (t2 h3)
  ·have hall:=(pz w 0 bV (by omega) (by rw [h3];decide)).2
   have:=pF hf (WK hf he hin (kU hck.1) hall) hck.2
   rw [hnr] at this;cases this
structure Aq (p:Proj) (g:Lg):Prop where
 proj:g.proj=p
 form:ak p g.dom=true
 init:vP p g.dom
 full:aL g.dom=false
 few:g.decs.length≤20
 dok:∀x∈g.decs,bJ p x=true∧bJ p (negate x)=true
 right:Right p g.lines
 prop:(eO (g.lines.map Lin.clause) (dI p g.decs)).2=true∨bn (eO (g.lines.map Lin.clause) (dI p g.decs)).1 g.dom p.acts.length
theorem Aq.ok {p:Proj} {g:Lg} (hp:aG p=true) (h:Aq p g):ni g=true:=by
 obtain⟨gp,gd,gc,gl⟩:=g
 obtain⟨h1,h2,h3,h4,h5,h6,h7,h8⟩:=h
 dsimp only at h1 h2 h3 h4 h5 h6 h7 h8
 subst h1
 have hb:sZ ⟨gp,gd,gc,gl⟩=dI gp gc:=by unfold sZ dI aW;rw [if_pos hp]
 have hbf:=wP hp gc
 unfold ni
 dsimp only
 rw [hb,Ap hbf,hp,h2,vQ h7,decide_eq_false (by omega),List.all_eq_true.2 fun x hx=>(h6 x hx).1]
 simp only [Bool.not_false,Bool.true_and,Bool.or_eq_true]
 exact h8.imp id fun h=>DT (wO hbf).1 h2 h
theorem Aq.fresh {p:Proj} {l:List Lit} (hp:aG p=true) (hl:l.length≤20) (hd:∀x∈l,bJ p x=true∧bJ p (negate x)=true) (he:aL (dI p l)=false):Aq p ⟨p,dI p l,l,[]⟩:=by
 have hf:=wP hp l
 refine⟨rfl,hf,(Gh l _ (jo hp)).2,he,hl,hd,Right.nil p,.inr ?_⟩
 dsimp only
 have:iP ([]:List (List Lit)) (dI p l)= .inl (dI p l,false):=by
  unfold iP;rw [if_neg (by rw [he];decide)];rfl
 rw [List.map_nil,lV hf,this]
 exact bn.refl _ _
theorem Aq.say {p:Proj} {g:Lg} {s:Infer} (hs:Small p) (h:Aq p g) (hn:g.lines.length < 299) (hi:bq p g.dom=some s):nP g s=some (jL g s)∧Aq p (jL g s):=by
 have hF:=Nr hs h.init hi
 have hz:=(tT hi).2
 have hl:=XD (ahead:=g.lines) hs.ok (by omega) hF.fol
 constructor
 ·refine Dz ?_
  rw [kG,yc,hF.st]
  dsimp only
  rw [h.proj,show aH p g.lines (oV s)=0 from hl,hz,iI.2 rfl]
  rfl
 ·refine⟨h.proj,nE h.form _,h.init.restrict h.form _,Ou h.form h.full hF.lok hF.opn,h.few,h.dok,h.right.snoc hl,?_⟩
  have hbf:=wP hs.ok g.decs
  show (eO ((g.lines++[oV s]).map Lin.clause) (dI p g.decs)).2=true∨bn (eO ((g.lines++[oV s]).map Lin.clause) (dI p g.decs)).1 (restrict g.dom s.lit) p.acts.length
  rw [List.map_append]
  show (eO (g.lines.map Lin.clause++[s.clause]) (dI p g.decs)).2=true∨bn (eO (g.lines.map Lin.clause++[s.clause]) (dI p g.decs)).1 (restrict g.dom s.lit) p.acts.length
  obtain⟨k1,k2⟩:=DR s.clause (L:=g.lines.map Lin.clause) hbf
  cases hB:(eO (g.lines.map Lin.clause) (dI p g.decs)).2 with
  |true=>rw [k1 hB];exact .inl hB
  |false=>
   rw [k2 hB]
   have hd:=h.prop.resolve_left (by rw [hB];decide)
   obtain⟨d1,_,_⟩:=wO (L:=g.lines.map Lin.clause) hbf
   generalize (eO (g.lines.map Lin.clause) (dI p g.decs)).1=d at hd d1
   obtain⟨x1,x2,x3⟩:=wO (L:=g.lines.map Lin.clause++[s.clause]) d1
   cases hX:(eO (g.lines.map Lin.clause++[s.clause]) d).2 with
   |true=>exact .inl rfl
   |false=>
    refine .inr ?_
    obtain⟨x4,x5⟩:=x3 hX
    have hxg:=x2.trans hd
    generalize (eO (g.lines.map Lin.clause++[s.clause]) d).1=x at x1 x4 x5 hxg
    have hck:iO p s.clause=true:=by
     have:=hF.fol
     simp only [follows,Bool.and_eq_true] at this;exact this.1
    have hv:litValue x s.lit=1:=by
     by_cases hv:litValue x s.lit=1
     ·exact hv
     ·have:=YG hv hz (fun y hy=>(hF.mem y hy).imp id fun hy2=>aah h.form x1 x4 hxg (kU hck y hy) hy2) (Vd hF.pw)
      rw [x5 s.clause (by simp)] at this;cases this
    exact kJ (jq h.form) (jq x1) hxg (abx x1 hF.lok hv)
theorem Aq.conf {p:Proj} {g:Lg} {r:Rul} (hs:Small p) (h:Aq p g) (hn:g.lines.length < 298) (hi:dQ p g.dom=some r):
  jM g=some ⟨g.proj,g.dom,g.decs,g.lines++[bF g r]++[bA g]⟩∧Aq p ⟨g.proj,g.dom,g.decs,g.lines++[bF g r]++[bA g]⟩:=by
 have href:refutes p g.dom r=true:=by
  unfold dQ at hi
  rw [if_neg (by rw [h.full];exact fun hh=>by cases hh.2)] at hi
  exact List.find?_some hi
 have hfo:=Kc hs href
 have hl:=XD (ahead:=g.lines) hs.ok (by omega) hfo
 have hl:aH p g.lines (bF g r)=0:=by unfold bF;rw [h.proj];exact hl
 have hbf:=wP hs.ok g.decs
 have hck:iO p (explain p g.dom r)=true:=by simp only [follows,Bool.and_eq_true] at hfo;exact hfo.1
 have hA:(eO ((g.lines++[bF g r]).map Lin.clause) (dI p g.decs)).2=true:=by
  rw [List.map_append,show [bF g r].map Lin.clause= [explain p g.dom r] by unfold bF;rw [h.proj];rfl]
  obtain⟨k1,k2⟩:=DR (explain p g.dom r) (L:=g.lines.map Lin.clause) hbf
  cases hB:(eO (g.lines.map Lin.clause) (dI p g.decs)).2 with
  |true=>rw [k1 hB];exact hB
  |false=>
   rw [k2 hB]
   have hd:=h.prop.resolve_left (by rw [hB];decide)
   obtain⟨d1,_,_⟩:=wO (L:=g.lines.map Lin.clause) hbf
   generalize (eO (g.lines.map Lin.clause) (dI p g.decs)).1=d at hd d1
   obtain⟨x1,x2,x3⟩:=wO (L:=g.lines.map Lin.clause++[explain p g.dom r]) d1
   cases hX:(eO (g.lines.map Lin.clause++[explain p g.dom r]) d).2 with
   |true=>rfl
   |false=>
    obtain⟨x4,x5⟩:=x3 hX
    have hxg:=x2.trans hd
    have:=YF (b:=(eO (g.lines.map Lin.clause++[explain p g.dom r]) d).1) (w:=explain p g.dom r) fun y hy=>aah h.form x1 x4 hxg (kU hck y hy) (Ns h.form h.full y (WL hy))
    rw [x5 _ (by simp)] at this;cases this
 have hu:aH p (g.lines++[bF g r]) (bA g)=0:=by
  have hlo:Dl p (bA g)=true:=by
   simp only [Dl,Kr,bA,Rf,Bool.and_eq_true,Bool.or_eq_true]
   refine⟨Jy (eB _).1 (fun x hx=>?_) ?_,.inr (by decide)⟩
   ·obtain⟨y,hy,rfl⟩:=List.mem_map.1 (((eB _).2 x).1 hx)
    exact (h.dok y hy).2
   ·have:=qo (g.decs.map negate)
    have:=h.few
    rw [List.length_map] at*;omega
  unfold aH
  rw [if_pos ⟨hs.ok,hlo,by rw [List.length_append];simp;omega⟩,show (bA g).kind=2 from rfl,if_neg (by decide)]
  rw [show (bA g).clause=bH (g.decs.map negate) from rfl,aak hs.ok fun x hx=>(h.dok x hx).1,Ap hbf,if_pos hA]
 have hR:=(h.right.snoc hl).snoc hu
 constructor
 ·rw [yh,h.proj,hi]
  dsimp only
  rw [if_pos ⟨hl,hu⟩]
 ·refine⟨h.proj,h.form,h.init,h.full,h.few,h.dok,hR,.inl ?_⟩
  show (eO ((g.lines++[bF g r]++[bA g]).map Lin.clause) (dI p g.decs)).2=true
  rw [List.map_append]
  have:=(DR (bA g).clause (L:=(g.lines++[bF g r]).map Lin.clause) hbf).1 hA
  rw [show [bA g].map Lin.clause= [(bA g).clause] from rfl,this]
  exact hA
open Go.Proofs
theorem acW {p:Proj} {l:Lit} (h:bJ p l=true) (h1:l.kind=1→0≤l.val) (h2:l.kind=2→l.val≤60):bJ p (negate l)=true:=by
 obtain⟨hp,ha,hv1,hv2,hk⟩:=kH h
 have w:within l.val (-100000) 100000=true:=within_iff.2 (by omega)
 obtain⟨k,a,v⟩:=l
 dsimp only at hp ha hv1 hv2 hk h1 h2 w
 unfold bJ at h
 dsimp only at h
 rw [hp,ha] at h
 simp only [Bool.true_and] at h
 unfold negate
 dsimp only
 rw [if_pos w]
 rcases hk with q|q|q|q
 ·have:=h1 q
  rw [if_pos q];unfold bJ;dsimp only
  rw [hp,ha,if_pos (by omega)];simp only [Bool.true_and]
  exact within_iff.2 (by omega)
 ·have:=h2 q
  rw [if_neg (by omega),if_pos q];unfold bJ;dsimp only
  rw [hp,ha,if_pos (by omega)];simp only [Bool.true_and]
  exact within_iff.2 (by omega)
 ·rw [if_neg (by omega),if_pos (by omega)] at h
  rw [if_neg (by omega),if_neg (by omega),if_pos q];unfold bJ;dsimp only
  rw [hp,ha,if_neg (by decide),if_pos (by decide)];simp only [Bool.true_and]
  exact h
 ·rw [if_neg (by omega),if_pos (by omega)] at h
  rw [if_neg (by omega),if_neg (by omega),if_neg (by omega),if_pos q];unfold bJ;dsimp only
  rw [hp,ha,if_neg (by decide),if_pos (by decide)];simp only [Bool.true_and]
  exact h
theorem Ve {p:Proj} (hp:aG p=true) {c:Cur} (h:c.ok):bJ p (negate (fJ p c).1)=true:=by
 refine acW (yw hp h).1 ?_ ?_
 all_goals
  obtain⟨a,c1,e1,h1,a0,a1⟩:=aC h p.acts.length
  obtain⟨o,c2,e2,h2,o0,o1⟩:=aC h1 4
  obtain⟨k,c3,e3,h3,k0,k1⟩:=aC h2 2
  obtain⟨v,c4,e4,h4,v0,v1⟩:=aC h3 10
  have v1:=v1 (by decide)
  unfold fJ
  rw [e1];dsimp only;rw [e2];dsimp only;rw [e3];dsimp only
  split
  ·dsimp only;intro q;omega
  ·rw [e4];dsimp only;intro q;omega
def jv (p:Proj) (g:Lg) (c:Cur):Lg×Cur:=
 (if aL (restrict g.dom (fJ p c).1)=true then g else⟨g.proj,restrict g.dom (fJ p c).1,g.decs++[(fJ p c).1],g.lines⟩,(fJ p c).2)
def yU (p:Proj) (code:List Int):Lg:=
 let k:=below (EU (qZ code) 23) 3
 (itN (jv p) k.1.toNat ⟨p,aW p,[],[]⟩ k.2).1
def vk (p:Proj) (k:Nat) (g:Lg):Prop:=∃l,g=⟨p,dI p l,l,[]⟩∧l.length≤k∧(∀x∈l,bJ p x=true∧bJ p (negate x)=true)∧aL (dI p l)=false
theorem vk.add {p:Proj} {k:Nat} {g:Lg} (hp:aG p=true) (h:vk p k g) {x:Lit} (hx:bJ p x=true) (hn:bJ p (negate x)=true) (he:aL (restrict g.dom x)=false):vk p (k+1) ⟨g.proj,restrict g.dom x,g.decs++[x],g.lines⟩:=by
 obtain⟨l,rfl,h1,h2,h3⟩:=h
 have e:restrict (dI p l) x=dI p (l++[x]):=by unfold dI;rw [List.foldl_append];rfl
 dsimp only at he ⊢
 refine⟨l++[x],by rw [e],by simp;omega,fun y hy=>?_,by rw [← e];exact he⟩
 rcases List.mem_append.1 hy with hy|hy
 ·exact h2 y hy
 ·rw [List.mem_singleton.1 hy];exact⟨hx,hn⟩
theorem vk.aal {p:Proj} {k:Nat} {g:Lg} (hp:aG p=true) (h:vk p k g) (hk:k≤20):Aq p g:=by
 obtain⟨l,rfl,h1,h2,h3⟩:=h
 exact Aq.fresh hp (by omega) h2 h3
theorem vk.mono {p:Proj} {k j:Nat} {g:Lg} (h:vk p k g) (hk:k≤j):vk p j g:=by
 obtain⟨l,e,h1,h2⟩:=h
 exact⟨l,e,by omega,h2⟩
theorem JD {p:Proj} (hp:aG p=true):vk p 0 ⟨p,aW p,[],[]⟩:=⟨[],rfl,Nat.le_refl _,fun x hx=>(by cases hx),RQ hp⟩
theorem Vf {p:Proj} (hp:aG p=true) {k:Nat} {g:Lg} {c:Cur} (hc:c.ok) (h:vk p k g):vk p (k+1) (jv p g c).1∧(jv p g c).2.ok:=by
 have hd:=yw hp hc
 unfold jv
 dsimp only
 refine⟨?_,hd.2⟩
 split
 ·exact h.mono (by omega)
 ·rename_i he
  exact h.add hp hd.1 (Ve hp hc) (by simpa using he)
theorem Qc {p:Proj} (hp:aG p=true) {c:Cur} (hc:c.ok) (j:Nat):vk p j (itN (jv p) j ⟨p,aW p,[],[]⟩ c).1∧(itN (jv p) j ⟨p,aW p,[],[]⟩ c).2.ok:=
 lq (f:=jv p) (fun k g=>vk p k g) (fun k g c hc h=>Vf hp hc h) j _ c hc (JD hp)
theorem Nt {p:Proj} (hp:aG p=true) (code:List Int):vk p 3 (yU p code):=by
 unfold yU
 dsimp only
 obtain⟨n,c1,e1,h1,n0,n1⟩:=aC (xL (pX code) 23) 3
 have n1:=n1 (by decide)
 rw [e1]
 exact (Qc hp h1 n.toNat).1.mono (by omega)
structure Nu (p:Proj) (g h:Lg) (k:Nat):Prop where
 ok:Aq p h
 decs:h.decs=g.decs
 len:h.lines.length=g.lines.length+k
 sub:bn h.dom g.dom p.acts.length
 keep:∀c,dF p c=true→jZ g.dom c p.acts.length→jZ h.dom c p.acts.length
 few:sumTo (kK h.dom) p.acts.length+k≤sumTo (kK g.dom) p.acts.length
 same:k=0→h=g
theorem Nu.start {p:Proj} {g:Lg} (h:Aq p g):Nu p g g 0:=⟨h,rfl,by simp,bn.refl _ _,fun _ _ h=>h,by simp,fun _=>rfl⟩
section
attribute [local irreducible] sumTo kK restrict bq aL ak
theorem Im {p:Proj} (hs:Small p):∀(f n:Nat) (g:Lg),Aq p g→g.lines.length+f≤290→∃h k,iR f n g=(h,n+k)∧Nu p g h k∧k≤f
 |0,n,g,hg,_=>⟨g,0,rfl,Nu.start hg,Nat.le_refl _⟩
 |f+1,n,g,hg,hn=>by
  rw [Ag,yg,hg.proj]
  cases hi:bq p g.dom with
  |none=>exact⟨g,0,rfl,Nu.start hg,Nat.zero_le _⟩
  |some s=>
   obtain⟨e,h1⟩:=hg.say hs (by omega) hi
   have st:=Ov hg.init hi
   dsimp only
   rw [e]
   dsimp only
   have hlen:(jL g s).lines.length=g.lines.length+1:=by unfold jL;simp
   obtain⟨h,k,e2,r,hk⟩:=Im hs f (n+1) (jL g s) h1 (by omega)
   refine⟨h,k+1,by rw [e2,show n+1+k=n+(k+1) by omega],⟨r.ok,r.decs,by rw [r.len,hlen];omega,r.sub.trans (kI g.dom _ (jq hg.form)),fun c hc hi=>r.keep c hc (st.keep c hc hi),?_,fun h=>by omega⟩,by omega⟩
   have h4:=r.few
   have h5:=st.down
   rw [show (jL g s).dom=restrict g.dom s.lit from rfl] at h4
   omega
theorem YH {p:Proj} {g h:Lg} {k:Nat} (hg:Aq p g) (r:Nu p g h k) (hd:p.dead≤6) (h2:∀k,k < p.acts.length→(bg p k).modes.length≤2) (hn:p.acts.length≤2):k < 20:=by
 have h1:=WM hg.form hg.init hd h2 hn
 have h3:=YI r.ok.form r.ok.full
 have h4:=r.few
 have h5:=kg (aT hg.form).1
 omega
end
theorem YJ {p:Proj} {g h:Lg} {k:Nat} (hg:Aq p g) (r:Nu p g h k) (m:Nat):DU p h.dom m=DU p g.dom m:=by
 unfold DU
 congr 2
 refine List.filter_congr fun s hs=>?_
 have ho:=Gj s hs
 rw [Bool.eq_iff_iff,contains_iff r.ok.form ho,contains_iff hg.form ho]
 exact⟨YK r.sub,r.keep s ho⟩
end Go.Proofs.YtgkfifiobmklcaaGreat.Abs
