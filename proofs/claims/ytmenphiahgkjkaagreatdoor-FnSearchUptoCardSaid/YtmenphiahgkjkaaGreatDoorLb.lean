/- Proofs that are drawn are right. -/
import Derived.Test.YtmenphiahgkjkaaGreatDoorBt
import Derived.Test.YtmenphiahgkjkaaGreatDoorBud
import Derived.Test.YtmenphiahgkjkaaGreatDoorBs
import Derived.Test.YtmenphiahgkjkaaGreatDoorC51
import Derived.Test.YtmenphiahgkjkaaGreatDoorVis
import Derived.Test.YtmenphiahgkjkaaGreatDoorCz
set_option linter.all false
set_option maxRecDepth 20000
set_option maxHeartbeats 0
namespace Go.Proofs.YtmenphiahgkjkaaGreatDoor.Abs
open Go.Proofs
attribute [local irreducible] refutes dO bF aD
theorem Jl (code:List Int):Small (gD code):=by
 obtain⟨h1,h2⟩:=ng code
 have ha:=h1.acts
 refine⟨Ez code,by omega,fun k hk=>?_⟩
 exact (h1.aok k _ (iB hk)).2.2
theorem Cn {p:Proj} {ls:List Lin} (h:Right p ls):jT p ls=true:=by
 unfold jT;rw [II h];rfl
end Go.Proofs.YtmenphiahgkjkaaGreatDoor.Abs
namespace Go.Proofs.YtmenphiahgkjkaaGreatDoor.Abs
open Go.Proofs
theorem FL {p:Proj} {b:Dom} (hf:ak p b=true) {l:Lit} (hl:dI p l=true):∃k:Nat,l.act=k∧k < p.acts.length∧eF b l.act=true:=by
 obtain⟨_,h2,_⟩:=nO hl
 obtain⟨h4,h5⟩:=fC h2
 obtain⟨_,l1,l2,l3⟩:=bq hf
 refine⟨l.act.toNat,by omega,h5,?_⟩
 simp only [eF,Bool.and_eq_true,decide_eq_true_eq];omega
theorem uY {y n:Bool} (h:valueOf y n=1):y=true:=by
 cases y<;>cases n<;>simp_all [valueOf]
theorem jE {y n:Bool} (h:valueOf y n= -1):y=false∧n=true:=by
 cases y<;>cases n<;>simp_all [valueOf]
theorem yh {y n:Bool} (hy:y=false) (hn:n=true):valueOf y n= -1:=by subst hy hn;rfl
theorem JM {m:List Int} {v:Int} (hs:uE m=true) (hne:m≠[]) (h:∀x∈m,x=v):m= [v]:=by
 have hp:=EC hs
 cases m with
 |nil=>exact absurd rfl hne
 |cons a r=>
  obtain rfl:=h a (List.mem_cons_self ..)
  cases r with
  |nil=>rfl
  |cons c r=>
   have:=h c (List.mem_cons_of_mem _ (List.mem_cons_self ..))
   rw [List.pairwise_cons] at hp
   have:=hp.1 c (List.mem_cons_self ..)
   omega
theorem abO {p:Proj} {b x:Dom} {l:Lit} (hf:ak p b=true) (hx:ak p x=true) (he:aP x=false) (hs:bA x b p.acts.length) (hl:dI p l=true) (h:litValue b l= -1):litValue x l= -1:=by
 obtain⟨k,e,hk,hd⟩:=FL hf hl
 obtain⟨_,_,_,hd'⟩:=FL hx hl
 obtain⟨g1,g2,g3⟩:=hs k hk
 obtain⟨⟨⟨m0,hm0,_⟩,_⟩,hxy⟩:=iA hx he (bA.refl _ _) hk
 obtain⟨a',x',y',m',gx⟩:=dL hx hk
 have e3:=getD_some (d:=[]) gx.modes
 have hmo:=gx.mok
 rw [← e3] at hmo
 unfold litValue at h ⊢
 rw [if_pos hd] at h
 rw [if_pos hd']
 dsimp only at h ⊢
 rw [e,Int.toNat_natCast] at h ⊢
 split at h
 ·rename_i q;rw [if_pos q]
  obtain⟨h1,h2⟩:=jE h
  have h2:=of_decide_eq_true h2
  exact yh (decide_eq_false (by omega)) (decide_eq_true (by omega))
 rename_i q1;rw [if_neg q1]
 split at h
 ·rename_i q;rw [if_pos q]
  obtain⟨h1,h2⟩:=jE h
  have h2:=of_decide_eq_true h2
  exact yh (decide_eq_false (by omega)) (decide_eq_true (by omega))
 rename_i q2;rw [if_neg q2]
 split at h
 ·rename_i q;rw [if_pos q]
  obtain⟨h1,h2⟩:=jE h
  simp only [Bool.not_eq_true', ← Bool.not_eq_true,List.contains_iff_mem] at h2
  refine yh (decide_eq_false fun hh=>h2 (g3 _ (by rw [hh];exact List.mem_cons_self ..))) ?_
  simp only [Bool.not_eq_true', ← Bool.not_eq_true,List.contains_iff_mem]
  exact fun hh=>h2 (g3 _ hh)
 rename_i q3;rw [if_neg q3]
 split at h
 ·rename_i q;rw [if_pos q]
  obtain⟨h1,h2⟩:=jE h
  have h2:=of_decide_eq_true h2
  have hone:x.modes.getD k []= [l.val]:=JM hmo (List.ne_nil_of_mem hm0) fun z hz=>by
   have:=g3 z hz
   rw [h2] at this
   exact List.mem_singleton.1 this
  refine yh ?_ (decide_eq_true hone)
  rw [hone];simp
 ·cases h
theorem uZ {b:Dom} {l:Lit} (hd:eF b l.act=true) (q:l.kind=1):restrict b l= { b with lo:=b.lo.set l.act.toNat (max (b.lo.getD l.act.toNat 0) (clamped l.val)) }:=by
 unfold restrict;rw [if_pos hd];dsimp only;rw [if_pos q]
theorem vg {b:Dom} {l:Lit} (hd:eF b l.act=true) (q:l.kind=2):restrict b l= { b with hi:=b.hi.set l.act.toNat (min (b.hi.getD l.act.toNat 0) (clamped l.val)) }:=by
 unfold restrict;rw [if_pos hd];dsimp only;rw [if_neg (by omega),if_pos q]
theorem vk {b:Dom} {l:Lit} (hd:eF b l.act=true) (q:l.kind=3):restrict b l= { b with modes:=b.modes.set l.act.toNat ((b.modes.getD l.act.toNat []).filter fun n=>decide (n=clamped l.val)) }:=by
 unfold restrict;rw [if_pos hd];dsimp only;rw [if_neg (by omega),if_neg (by omega),if_pos q]
theorem vo {b:Dom} {l:Lit} (hd:eF b l.act=true) (q:l.kind=4):restrict b l= { b with modes:=b.modes.set l.act.toNat ((b.modes.getD l.act.toNat []).filter fun n=>decide (n≠clamped l.val)) }:=by
 unfold restrict;rw [if_pos hd];dsimp only;rw [if_neg (by omega),if_neg (by omega),if_neg (by omega),if_pos q]
theorem aaz {p:Proj} {b:Dom} {l:Lit} (hf:ak p b=true) (hl:dI p l=true) (h:litValue b l=1):bA b (restrict b l) p.acts.length:=by
 obtain⟨k,e,hk,hd⟩:=FL hf hl
 obtain⟨_,_,hv1,hv2,hkind⟩:=nO hl
 obtain⟨_,l1,l2,l3⟩:=bq hf
 have hcl:=gU (v:=l.val) (by omega)
 unfold litValue at h
 rw [if_pos hd] at h
 dsimp only at h
 have R:∀c:Dom,(c.lo.getD k 0≤b.lo.getD k 0∧b.hi.getD k 0≤c.hi.getD k 0∧∀m∈b.modes.getD k [],m∈c.modes.getD k [])→(∀j,j≠k→c.lo.getD j 0=b.lo.getD j 0∧c.hi.getD j 0=b.hi.getD j 0∧c.modes.getD j []=b.modes.getD j [])→bA b c p.acts.length:=by
  intro c h1 h2 j hj
  by_cases ej:j=k
  ·subst ej;exact h1
  ·obtain⟨a1,a2,a3⟩:=h2 j ej
   rw [a1,a2,a3]
   exact⟨Int.le_refl _,Int.le_refl _,fun _ h=>h⟩
 rcases hkind with q|q|q|q
 ·rw [if_pos q] at h
  have h1:=of_decide_eq_true (uY h)
  rw [uZ hd q,hcl]
  rw [e,Int.toNat_natCast] at h1 ⊢
  refine R _ ⟨?_,Int.le_refl _,fun _ h=>h⟩ fun j hj=>⟨getD_set_ne (fun h=>hj h.symm),rfl,rfl⟩
  dsimp only
  rw [aM (by omega)];omega
 ·rw [if_neg (by omega),if_pos q] at h
  have h1:=of_decide_eq_true (uY h)
  rw [vg hd q,hcl]
  rw [e,Int.toNat_natCast] at h1 ⊢
  refine R _ ⟨Int.le_refl _,?_,fun _ h=>h⟩ fun j hj=>⟨rfl,getD_set_ne (fun h=>hj h.symm),rfl⟩
  dsimp only
  rw [aM (by omega)];omega
 ·rw [if_neg (by omega),if_neg (by omega),if_pos q] at h
  have h1:=of_decide_eq_true (uY h)
  rw [vk hd q,hcl]
  rw [e,Int.toNat_natCast] at h1 ⊢
  refine R _ ⟨Int.le_refl _,Int.le_refl _,fun m hm=>?_⟩ fun j hj=>⟨rfl,rfl,getD_set_ne (fun h=>hj h.symm)⟩
  dsimp only
  rw [aM (by omega),List.mem_filter]
  refine⟨hm,decide_eq_true ?_⟩
  rw [h1] at hm
  exact List.mem_singleton.1 hm
 ·rw [if_neg (by omega),if_neg (by omega),if_neg (by omega),if_pos q] at h
  have h1:=uY h
  rw [vo hd q,hcl]
  rw [e,Int.toNat_natCast] at h1 ⊢
  simp only [Bool.not_eq_true', ← Bool.not_eq_true,List.contains_iff_mem] at h1
  refine R _ ⟨Int.le_refl _,Int.le_refl _,fun m hm=>?_⟩ fun j hj=>⟨rfl,rfl,getD_set_ne (fun h=>hj h.symm)⟩
  dsimp only
  rw [aM (by omega),List.mem_filter]
  exact⟨hm,decide_eq_true fun hh=>h1 (by rw [← hh];exact hm)⟩
theorem Ns {p:Proj} {b:Dom} {l:Lit} (hf:ak p b=true) (he:aP b=false) (hl:dI p l=true) (h:litValue b l≠ -1):aP (restrict b l)=false:=by
 obtain⟨k,e,hk,hd⟩:=FL hf hl
 obtain⟨_,_,hv1,hv2,hkind⟩:=nO hl
 obtain⟨_,l1,l2,l3⟩:=bq hf
 have hcl:=gU (v:=l.val) (by omega)
 have hfr:=ni (l:=l) hf
 obtain⟨⟨⟨m0,hm0,_⟩,_⟩,hxy⟩:=iA hf he (bA.refl _ _) hk
 have full:∀j,j < p.acts.length→b.lo.getD j 0≤b.hi.getD j 0∧b.modes.getD j []≠[]:=fun j hj=>by
  obtain⟨⟨⟨m1,hm1,_⟩,_⟩,hx1⟩:=iA hf he (bA.refl _ _) hj
  exact⟨hx1,List.ne_nil_of_mem hm1⟩
 have R:∀c:Dom,ak p c=true→(∀j,j < p.acts.length→c.lo.getD j 0≤c.hi.getD j 0∧c.modes.getD j []≠[])→aP c=false:=by
  intro c hc hj
  obtain⟨_,c1,c2,c3⟩:=bq hc
  simp only [aP,Bool.or_eq_false_iff,List.any_eq_false,List.mem_range]
  refine⟨fun i hi=>?_,fun m hm=>?_⟩
  ·have:=(hj i (by omega)).1
   unfold nE
   rw [List.getElem?_eq_getElem (by omega:i < c.lo.length),List.getElem?_eq_getElem (by omega:i < c.hi.length)]
   rw [List.getD_eq_getElem?_getD,List.getElem?_eq_getElem (by omega:i < c.lo.length),List.getD_eq_getElem?_getD,List.getElem?_eq_getElem (by omega:i < c.hi.length)] at this
   simp only [Option.getD_some] at this
   simp only [decide_eq_true_eq];omega
  ·obtain⟨i,hi,rfl⟩:=List.getElem_of_mem hm
   have:=(hj i (by omega)).2
   rw [List.getD_eq_getElem?_getD,List.getElem?_eq_getElem hi] at this
   simp only [Option.getD_some] at this
   simp only [decide_eq_true_eq]
   have:=List.length_pos_iff.2 this
   omega
 refine R _ hfr ?_
 unfold litValue at h
 rw [if_pos hd] at h
 dsimp only at h
 have nv:∀{y n:Bool},valueOf y n≠ -1→n=true→y=true:=fun {y n} h hn=>by cases y<;>cases n<;>simp_all [valueOf]
 intro j hj
 by_cases ej:j=k
 rotate_left
 ·have hne:l.act.toNat≠j:=by omega
  rcases hkind with q|q|q|q
  ·rw [uZ hd q];dsimp only;rw [getD_set_ne hne];exact full j hj
  ·rw [vg hd q];dsimp only;rw [getD_set_ne hne];exact full j hj
  ·rw [vk hd q];dsimp only;rw [getD_set_ne hne];exact full j hj
  ·rw [vo hd q];dsimp only;rw [getD_set_ne hne];exact full j hj
 subst ej
 have ea:l.act.toNat=j:=by omega
 obtain⟨f1,f2⟩:=full j hj
 rcases hkind with q|q|q|q
 ·rw [if_pos q] at h
  rw [ea] at h
  rw [uZ hd q,hcl,ea]
  dsimp only
  rw [aM (by omega)]
  refine⟨?_,f2⟩
  by_cases hb:b.hi.getD j 0 < l.val
  ·have:=of_decide_eq_true (nv h (decide_eq_true hb));omega
  ·omega
 ·rw [if_neg (by omega),if_pos q] at h
  rw [ea] at h
  rw [vg hd q,hcl,ea]
  dsimp only
  rw [aM (by omega)]
  refine⟨?_,f2⟩
  by_cases hb:b.lo.getD j 0 > l.val
  ·have:=of_decide_eq_true (nv h (decide_eq_true hb));omega
  ·omega
 ·rw [if_neg (by omega),if_neg (by omega),if_pos q] at h
  rw [ea] at h
  rw [vk hd q,hcl,ea]
  dsimp only
  rw [aM (by omega)]
  refine⟨f1,?_⟩
  have hm:l.val∈b.modes.getD j []:=by
   by_cases hc:l.val∈b.modes.getD j []
   ·exact hc
   ·have:=of_decide_eq_true (nv h (by simp only [Bool.not_eq_true', ← Bool.not_eq_true,List.contains_iff_mem];exact hc))
    rw [this];exact List.mem_cons_self ..
  exact List.ne_nil_of_mem (List.mem_filter.2 ⟨hm,decide_eq_true rfl⟩)
 ·rw [if_neg (by omega),if_neg (by omega),if_neg (by omega),if_pos q] at h
  rw [ea] at h
  rw [vo hd q,hcl,ea]
  dsimp only
  rw [aM (by omega)]
  refine⟨f1,fun hnil=>?_⟩
  rw [List.filter_eq_nil_iff] at hnil
  obtain⟨a',x',y',m',gx⟩:=dL hf hj
  have e3:=getD_some (d:=[]) gx.modes
  have hmo:=gx.mok
  rw [← e3] at hmo
  have hone:b.modes.getD j []= [l.val]:=JM hmo f2 fun z hz=>by
   have:=hnil z hz
   simpa using this
  have:=nv h (decide_eq_true hone)
  rw [hone] at this
  simp at this
open Go.Proofs
theorem Du {L:List (List Lit)} {b:Dom} {r:Dom×Bool} (h:ku L b= .inl r):r.1=b∧(r.2=false→aP b=false∧∀c∈L,bites b c=false):=by
 unfold ku at h
 split at h
 ·cases h;exact⟨rfl,nofun⟩
 ·rename_i he
  split at h
  ·rename_i hn
   cases h
   rw [List.find?_eq_none] at hn
   exact⟨rfl,fun _=>⟨by simpa using he,fun c hc=>by simpa using hn c hc⟩⟩
  ·split at h
   ·cases h;exact⟨rfl,nofun⟩
   ·cases h
theorem yj {p:Proj} {L:List (List Lit)} {b c:Dom} (hf:ak p b=true) (h:ku L b= .inr c):ak p c=true∧gL c < gL b∧bA c b p.acts.length:=by
 unfold ku at h
 split at h
 ·cases h
 ·split at h
  ·cases h
  ·rename_i l hl
   split at h
   ·cases h
   ·rename_i hs
    cases h
    obtain⟨g1,g2⟩:=Ik hf (List.find?_some hl) hs
    exact⟨g1,g2,mI b _ (jD hf)⟩
theorem Mk {p:Proj} {L:List (List Lit)}:∀(n m:Nat) (b:Dom),ak p b=true→gL b < n→gL b < m→tq L n b=tq L m b
 |0,_,_,_,h,_=>by omega
 |_+1,0,_,_,_,h=>by omega
 |n+1,m+1,b,hf,h1,h2=>by
  rw [tq,tq]
  cases hu:ku L b with
  |inl r=>rfl
  |inr c=>
   obtain⟨g1,g2,_⟩:=yj hf hu
   exact Mk n m c g1 (by omega) (by omega)
def dS (L:List (List Lit)) (b:Dom):Dom×Bool:=tq L (gL b+1) b
theorem pY {p:Proj} {L:List (List Lit)} {b:Dom} (hf:ak p b=true):dS L b=match ku L b with| .inl r=>r| .inr c=>dS L c:=by
 unfold dS
 rw [tq]
 cases hu:ku L b with
 |inl r=>rfl
 |inr c=>
  obtain⟨g1,g2,_⟩:=yj hf hu
  exact Mk _ _ c g1 (by omega) (by omega)
theorem Ul {p:Proj} {L:List (List Lit)} {b:Dom} (hf:ak p b=true):jy p L b=dS L b:=by rw [jy,if_pos hf];rfl
theorem Ml {p:Proj} {L:List (List Lit)}:∀(n:Nat) (b:Dom),gL b < n→ak p b=true→ak p (dS L b).1=true∧bA (dS L b).1 b p.acts.length∧ku L (dS L b).1= .inl (dS L b)
 |0,_,h,_=>by omega
 |n+1,b,h,hf=>by
  rw [pY hf]
  cases hu:ku L b with
  |inl r=>
   dsimp only
   rw [(Du hu).1]
   exact⟨hf,bA.refl _ _,hu⟩
  |inr c=>
   dsimp only
   obtain⟨g1,g2,g3⟩:=yj hf hu
   obtain⟨k1,k2,k3⟩:=Ml n c (by omega) g1
   exact⟨k1,k2.trans g3,k3⟩
theorem wM {p:Proj} {L:List (List Lit)} {b:Dom} (hf:ak p b=true):ak p (dS L b).1=true∧bA (dS L b).1 b p.acts.length∧((dS L b).2=false→aP (dS L b).1=false∧∀c∈L,bites (dS L b).1 c=false):=by
 obtain⟨h1,h2,h3⟩:=Ml (L:=L) (gL b+1) b (by omega) hf
 exact⟨h1,h2,(Du h3).2⟩
theorem Um {L:List (List Lit)} {c:List Lit} {b:Dom}:ku L b= .inl (b,false)∨ku (L++[c]) b=ku L b:=by
 unfold ku
 split
 ·exact .inr rfl
 ·cases hf:L.find? (bites b) with
  |none=>exact .inl rfl
  |some l=>rw [List.find?_append,hf];exact .inr rfl
theorem IJ {p:Proj} {L:List (List Lit)} {c:List Lit}:∀(n:Nat) (b:Dom),gL b < n→ak p b=true→((dS L b).2=true→dS (L++[c]) b=dS L b)∧((dS L b).2=false→dS (L++[c]) b=dS (L++[c]) (dS L b).1)
 |0,_,h,_=>by omega
 |n+1,b,h,hf=>by
  rcases Um (L:=L) (c:=c) (b:=b) with hu|hu
  ·have e:dS L b=(b,false):=by rw [pY hf,hu]
   rw [e]
   exact⟨nofun,fun _=>rfl⟩
  ·rw [pY (L:=L++[c]) hf,hu,pY (L:=L) hf]
   cases hv:ku L b with
   |inl r=>
    dsimp only
    refine⟨fun _=>rfl,fun h2=>?_⟩
    have e:=(Du hv).1
    rw [e,pY (L:=L++[c]) hf,hu,hv]
   |inr d=>
    dsimp only
    obtain⟨g1,g2,_⟩:=yj hf hv
    exact IJ n d (by omega) g1
theorem Mq {p:Proj} {L:List (List Lit)} (c:List Lit) {b:Dom} (hf:ak p b=true):((dS L b).2=true→dS (L++[c]) b=dS L b)∧((dS L b).2=false→dS (L++[c]) b=dS (L++[c]) (dS L b).1):=IJ (gL b+1) b (by omega) hf
theorem qw {b:Dom}:∀(w:List Lit) (n:Int) (x:Lit),(aN b w n x).1=1∨(aN b w n x).1=0∨(aN b w n x).1= -1
 |[],n,x=>by rw [aN];split; · exact .inr (.inr rfl)
             split<;>exact .inr (.inl rfl)
 |y::w,n,x=>by
  rw [aN]
  split
  ·exact .inl rfl
  ·split
   ·exact qw w _ _
   ·exact qw w _ _
theorem XU {b:Dom} {w:List Lit} {l:Lit} (hl:litValue b l≠1) (hz:bH l bU=false) (h:∀y∈w,y=l∨litValue b y= -1) (hp:w.Pairwise (· ≠ ·)):bites b w=true:=by
 obtain⟨t1,t2⟩:=yt hl w 0 bU h hp (.inl rfl)
 unfold bites status
 rcases qw (b:=b) w 0 bU with h3|h3|h3
 ·exact absurd h3 t1
 ·rw [t2 h3,h3,hz];rfl
 ·rw [h3];rfl
theorem Zt {p:Proj} {b:Dom} {l:Lit} (hf:ak p b=true) (he:aP b=false) (hl:dI p l=true) (h:litValue b l= -1):bA b (restrict b (negate l)) p.acts.length:=by
 obtain⟨k,e,hk,hd⟩:=FL hf hl
 obtain⟨_,_,hv1,hv2,hkind⟩:=nO hl
 obtain⟨_,l1,l2,l3⟩:=bq hf
 obtain⟨⟨⟨m0,hm0,_⟩,_⟩,hxy⟩:=iA hf he (bA.refl _ _) hk
 have ea:l.act.toNat=k:=by omega
 have R:∀c:Dom,(c.lo.getD k 0≤b.lo.getD k 0∧b.hi.getD k 0≤c.hi.getD k 0∧∀m∈b.modes.getD k [],m∈c.modes.getD k [])→(∀j,j≠k→c.lo.getD j 0=b.lo.getD j 0∧c.hi.getD j 0=b.hi.getD j 0∧c.modes.getD j []=b.modes.getD j [])→bA b c p.acts.length:=by
  intro c h1 h2 j hj
  by_cases ej:j=k
  ·subst ej;exact h1
  ·obtain⟨a1,a2,a3⟩:=h2 j ej
   rw [a1,a2,a3]
   exact⟨Int.le_refl _,Int.le_refl _,fun _ h=>h⟩
 have w:within l.val (-100000) 100000=true:=within_iff.2 (by omega)
 unfold litValue at h
 rw [if_pos hd] at h
 dsimp only at h
 rw [ea] at h
 rcases hkind with q|q|q|q
 ·have en:negate l=⟨2,l.act,l.val - 1⟩:=by unfold negate;rw [if_pos w,if_pos q]
  rw [if_pos q] at h
  have h2:=of_decide_eq_true (jE h).2
  rw [en,vg (l:=⟨2,l.act,l.val - 1⟩) hd rfl]
  dsimp only
  rw [gU (v:=l.val - 1) (by omega),ea]
  refine R _ ⟨Int.le_refl _,?_,fun _ h=>h⟩ fun j hj=>⟨rfl,getD_set_ne (fun h=>hj h.symm),rfl⟩
  dsimp only
  rw [aM (by omega)];omega
 ·have en:negate l=⟨1,l.act,l.val+1⟩:=by unfold negate;rw [if_pos w,if_neg (by omega),if_pos q]
  rw [if_neg (by omega),if_pos q] at h
  have h2:=of_decide_eq_true (jE h).2
  rw [en,uZ (l:=⟨1,l.act,l.val+1⟩) hd rfl]
  dsimp only
  rw [gU (v:=l.val+1) (by omega),ea]
  refine R _ ⟨?_,Int.le_refl _,fun _ h=>h⟩ fun j hj=>⟨getD_set_ne (fun h=>hj h.symm),rfl,rfl⟩
  dsimp only
  rw [aM (by omega)];omega
 ·have en:negate l=⟨4,l.act,l.val⟩:=by unfold negate;rw [if_pos w,if_neg (by omega),if_neg (by omega),if_pos q]
  rw [if_neg (by omega),if_neg (by omega),if_pos q] at h
  have h2:=(jE h).2
  simp only [Bool.not_eq_true', ← Bool.not_eq_true,List.contains_iff_mem] at h2
  rw [en,vo (l:=⟨4,l.act,l.val⟩) hd rfl]
  dsimp only
  rw [gU (v:=l.val) (by omega),ea]
  refine R _ ⟨Int.le_refl _,Int.le_refl _,fun m hm=>?_⟩ fun j hj=>⟨rfl,rfl,getD_set_ne (fun h=>hj h.symm)⟩
  dsimp only
  rw [aM (by omega),List.mem_filter]
  exact⟨hm,decide_eq_true fun hh=>h2 (by rw [← hh];exact hm)⟩
 ·have en:negate l=⟨3,l.act,l.val⟩:=by unfold negate;rw [if_pos w,if_neg (by omega),if_neg (by omega),if_neg (by omega),if_pos q]
  rw [if_neg (by omega),if_neg (by omega),if_neg (by omega),if_pos q] at h
  have h2:=of_decide_eq_true (jE h).2
  rw [en,vk (l:=⟨3,l.act,l.val⟩) hd rfl]
  dsimp only
  rw [gU (v:=l.val) (by omega),ea]
  refine R _ ⟨Int.le_refl _,Int.le_refl _,fun m hm=>?_⟩ fun j hj=>⟨rfl,rfl,getD_set_ne (fun h=>hj h.symm)⟩
  dsimp only
  rw [aM (by omega),List.mem_filter]
  rw [h2] at hm
  exact⟨by rw [h2];exact hm,decide_eq_true (List.mem_singleton.1 hm)⟩
end Go.Proofs.YtmenphiahgkjkaaGreatDoor.Abs
namespace Go.Proofs.YtmenphiahgkjkaaGreatDoor.Abs
open Go.Proofs
theorem Un {n:Nat}:∀(l:List Lit) (b:Dom),rz b n→rz (l.foldl restrict b) n∧bA (l.foldl restrict b) b n
 |[],b,h=>⟨h,bA.refl _ _⟩
 |y::l,b,h=>by
  obtain⟨h1,h2⟩:=Un l (restrict b y) (iI h y)
  exact⟨h1,h2.trans (mI b y h)⟩
theorem OW {p:Proj}:∀(l:List Lit) (b:Dom),ak p b=true→ak p (l.foldl restrict b)=true
 |[],b,h=>h
 |y::l,b,h=>OW l _ (ni h y)
def jf (p:Proj) (l:List Lit):Dom:=l.foldl restrict (bf p)
theorem FM {p:Proj} (hp:aL p=true) (l:List Lit):ak p (jf p l)=true:=OW l _ (Fp hp)
theorem adb {p:Proj} {b:Dom} (h:¬(fM p b).isSome=true):∀r∈aX p b,refutes p b r=false:=by
 unfold fM at h
 split at h
 ·exact absurd rfl h
 ·intro r hr
  cases e:refutes p b r with
  |false=>rfl
  |true=>
   exfalso
   apply h
   rw [List.find?_isSome]
   exact⟨r,hr,e⟩
structure aek (p:Proj) (b:Dom) (s:Infer):Prop where
 full:aP b=false
 form:ak p b=true
 lok:dI p s.lit=true
 opn:litValue b s.lit≠ -1
 mem:∀y∈s.clause,y=s.lit∨litValue b y= -1
 pw:s.clause.Pairwise eD
 fol:follows p s.rule s.clause=true
 st:status b s.clause=(0,s.lit)
theorem VO {p:Proj} {b:Dom} (hf:ak p b=true) (he:aP b=false) (hin:yg p b) {c:List Lit} (hc:∀x∈c,dI p x=true) (h:∀x∈c,litValue b x= -1):bA b (fP p c) p.acts.length:=by
 have hi:=jW (bq hf).1
 refine yu hi c (bf p) hi hin fun x hx=>?_
 exact oZ hi (jD hf) hin (Zt hf he (hc x hx) (h x hx))
theorem Mr {p:Proj} {b:Dom} {s:Infer} (hs:Small p) (hin:yg p b) (h:bF p b=some s):aek p b s:=by
 have hu:=(tT h).1
 have hf:=xU hu
 have he:aP b=false:=by
  simp only [usable,Bool.and_eq_true,Bool.not_eq_true'] at hu;exact hu.2
 unfold bF at h
 split at h
 ·cases h
 ·rename_i hno
  obtain⟨r,hr,h1⟩:=List.exists_of_findSome?_eq_some h
  have hnr:=adb hno r hr
  unfold uS at h1
  obtain⟨a,ha,h2⟩:=List.exists_of_findSome?_eq_some h1
  obtain⟨k,rfl,hk⟩:=xS ha
  unfold AP at h2
  rw [Int.toNat_natCast] at h2
  obtain⟨l,hl,rfl⟩:=Option.map_eq_some_iff.1 h2
  have hm:l∈mQ p b r k:=List.mem_of_mem_head? hl
  obtain⟨q1,q2⟩:=tZ hf hin hk hm
  have ho:=IK hf hk hm
  have hfo:=Dp hs hf q1 q2
  have hx:(dO p b r l).1=pR p r (fun x=>bH x l) (dh (rV p b++[l])):=by unfold dO;rw [if_pos ⟨q1,q2⟩]
  have hmem:∀y∈(dO p b r l).1,y=l∨litValue b y= -1:=by
   intro y hy
   rw [hx] at hy
   have h2:=(OX (p:=p) (r:=r) (keeps:=fun x=>bH x l) (dh (rV p b++[l])) (dh (rV p b++[l]))).1 y hy
   rcases List.mem_append.1 (((lY (rV p b++[l])).2 y).1 h2) with h3|h3
   ·exact .inr (VP hf he y h3)
   ·exact .inl (List.mem_singleton.1 h3)
  have hpw:(dO p b r l).1.Pairwise eD:=by
   rw [hx];exact IL _ _ (lY (rV p b++[l])).1
  have ael:litValue b l≠ -1:=fun e=>by
   have:=rW hf (Zt hf he q1 e) q2
   rw [hnr] at this;cases this
  generalize (dO p b r l).1=w at hfo hmem hpw
  obtain⟨t1,t2⟩:=yt ho w 0 bU hmem (Uo hpw) (.inl rfl)
  refine⟨he,hf,q1,ael,hmem,hpw,hfo,?_⟩
  have hck:jw p w=true∧refutes p (fP p w) r=true:=by simpa only [follows,Bool.and_eq_true] using hfo
  rcases qw (b:=b) w 0 bU with h3|h3|h3
  ·exact absurd h3 t1
  ·exact Prod.ext h3 (t2 h3)
  ·have hall:=(oW w 0 bU (by omega) (by rw [h3];decide)).2
   have:=rW hf (VO hf he hin (nu hck.1) hall) hck.2
   rw [hnr] at this;cases this
structure Dv (p:Proj) (g:Lg):Prop where
 proj:g.proj=p
 form:ak p g.dom=true
 init:yg p g.dom
 full:aP g.dom=false
 few:g.decs.length≤20
 dok:∀x∈g.decs,dI p x=true∧dI p (negate x)=true
 right:Right p g.lines
 prop:(dS (g.lines.map Lin.clause) (jf p g.decs)).2=true∨bA (dS (g.lines.map Lin.clause) (jf p g.decs)).1 g.dom p.acts.length
theorem Dv.ok {p:Proj} {g:Lg} (hp:aL p=true) (h:Dv p g):tu g=true:=by
 obtain⟨gp,gd,gc,gl⟩:=g
 obtain⟨h1,h2,h3,h4,h5,h6,h7,h8⟩:=h
 dsimp only at h1 h2 h3 h4 h5 h6 h7 h8
 subst h1
 have hb:xD ⟨gp,gd,gc,gl⟩=jf gp gc:=by unfold xD jf bf;rw [if_pos hp]
 have hbf:=FM hp gc
 unfold tu
 dsimp only
 rw [hb,Ul hbf,hp,h2,Cn h7,decide_eq_false (by omega),List.all_eq_true.2 fun x hx=>(h6 x hx).1]
 simp only [Bool.not_false,Bool.true_and,Bool.or_eq_true]
 exact h8.imp id fun h=>VQ (wM hbf).1 h2 h
theorem Dv.fresh {p:Proj} {l:List Lit} (hp:aL p=true) (hl:l.length≤20) (hd:∀x∈l,dI p x=true∧dI p (negate x)=true) (he:aP (jf p l)=false):Dv p ⟨p,jf p l,l,[]⟩:=by
 have hf:=FM hp l
 refine⟨rfl,hf,(Un l _ (jW hp)).2,he,hl,hd,Right.nil p,.inr ?_⟩
 dsimp only
 have:ku ([]:List (List Lit)) (jf p l)= .inl (jf p l,false):=by
  unfold ku;rw [if_neg (by rw [he];decide)];rfl
 rw [List.map_nil,pY hf,this]
 exact bA.refl _ _
theorem Dv.say {p:Proj} {g:Lg} {s:Infer} (hs:Small p) (h:Dv p g) (hn:g.lines.length < 299) (hi:bF p g.dom=some s):oP g s=some (qj g s)∧Dv p (qj g s):=by
 have hF:=Mr hs h.init hi
 have hz:=(tT hi).2
 have hl:=aaw (ahead:=g.lines) hs.ok (by omega) hF.fol
 constructor
 ·refine Dl ?_
  rw [lC,xV,hF.st]
  dsimp only
  rw [h.proj,show aD p g.lines (qh s)=0 from hl,hz,iN.2 rfl]
  rfl
 ·refine⟨h.proj,ni h.form _,h.init.restrict h.form _,Ns h.form h.full hF.lok hF.opn,h.few,h.dok,h.right.snoc hl,?_⟩
  have hbf:=FM hs.ok g.decs
  show (dS ((g.lines++[qh s]).map Lin.clause) (jf p g.decs)).2=true∨bA (dS ((g.lines++[qh s]).map Lin.clause) (jf p g.decs)).1 (restrict g.dom s.lit) p.acts.length
  rw [List.map_append]
  show (dS (g.lines.map Lin.clause++[s.clause]) (jf p g.decs)).2=true∨bA (dS (g.lines.map Lin.clause++[s.clause]) (jf p g.decs)).1 (restrict g.dom s.lit) p.acts.length
  obtain⟨k1,k2⟩:=Mq s.clause (L:=g.lines.map Lin.clause) hbf
  cases hB:(dS (g.lines.map Lin.clause) (jf p g.decs)).2 with
  |true=>rw [k1 hB];exact .inl hB
  |false=>
   rw [k2 hB]
   have hd:=h.prop.resolve_left (by rw [hB];decide)
   obtain⟨d1,_,_⟩:=wM (L:=g.lines.map Lin.clause) hbf
   generalize (dS (g.lines.map Lin.clause) (jf p g.decs)).1=d at hd d1
   obtain⟨x1,x2,x3⟩:=wM (L:=g.lines.map Lin.clause++[s.clause]) d1
   cases hX:(dS (g.lines.map Lin.clause++[s.clause]) d).2 with
   |true=>exact .inl rfl
   |false=>
    refine .inr ?_
    obtain⟨x4,x5⟩:=x3 hX
    have hxg:=x2.trans hd
    generalize (dS (g.lines.map Lin.clause++[s.clause]) d).1=x at x1 x4 x5 hxg
    have hck:jw p s.clause=true:=by
     have:=hF.fol
     simp only [follows,Bool.and_eq_true] at this;exact this.1
    have hv:litValue x s.lit=1:=by
     by_cases hv:litValue x s.lit=1
     ·exact hv
     ·have:=XU hv hz (fun y hy=>(hF.mem y hy).imp id fun hy2=>abO h.form x1 x4 hxg (nu hck y hy) hy2) (Uo hF.pw)
      rw [x5 s.clause (by simp)] at this;cases this
    exact oZ (jD h.form) (jD x1) hxg (aaz x1 hF.lok hv)
open Go.Proofs
def FN (p:Proj) (k:Nat) (g:Lg):Prop:=∃l,g=⟨p,jf p l,l,[]⟩∧l.length≤k∧(∀x∈l,dI p x=true∧dI p (negate x)=true)∧aP (jf p l)=false
theorem FN.add {p:Proj} {k:Nat} {g:Lg} (hp:aL p=true) (h:FN p k g) {x:Lit} (hx:dI p x=true) (hn:dI p (negate x)=true) (he:aP (restrict g.dom x)=false):FN p (k+1) ⟨g.proj,restrict g.dom x,g.decs++[x],g.lines⟩:=by
 obtain⟨l,rfl,h1,h2,h3⟩:=h
 have e:restrict (jf p l) x=jf p (l++[x]):=by unfold jf;rw [List.foldl_append];rfl
 dsimp only at he ⊢
 refine⟨l++[x],by rw [e],by simp;omega,fun y hy=>?_,by rw [← e];exact he⟩
 rcases List.mem_append.1 hy with hy|hy
 ·exact h2 y hy
 ·rw [List.mem_singleton.1 hy];exact⟨hx,hn⟩
theorem FN.aem {p:Proj} {k:Nat} {g:Lg} (hp:aL p=true) (h:FN p k g) (hk:k≤20):Dv p g:=by
 obtain⟨l,rfl,h1,h2,h3⟩:=h
 exact Dv.fresh hp (by omega) h2 h3
theorem FN.mono {p:Proj} {k j:Nat} {g:Lg} (h:FN p k g) (hk:k≤j):FN p j g:=by
 obtain⟨l,e,h1,h2⟩:=h
 exact⟨l,e,by omega,h2⟩
theorem Uq {p:Proj} (hp:aL p=true):FN p 0 ⟨p,bf p,[],[]⟩:=⟨[],rfl,Nat.le_refl _,fun x hx=>(by cases hx),QY hp⟩
structure Ur (p:Proj) (g h:Lg) (k:Nat):Prop where
 ok:Dv p h
 decs:h.decs=g.decs
 len:h.lines.length=g.lines.length+k
 sub:bA h.dom g.dom p.acts.length
 keep:∀c,bg p c=true→mK g.dom c p.acts.length→mK h.dom c p.acts.length
 few:sumTo (pz h.dom) p.acts.length+k≤sumTo (pz g.dom) p.acts.length
 same:k=0→h=g
theorem Ur.start {p:Proj} {g:Lg} (h:Dv p g):Ur p g g 0:=⟨h,rfl,by simp,bA.refl _ _,fun _ _ h=>h,by simp,fun _=>rfl⟩
section
attribute [local irreducible] sumTo pz restrict bF aP ak
theorem OY {p:Proj} (hs:Small p):∀(f n:Nat) (g:Lg),Dv p g→g.lines.length+f≤290→∃h k,dB f n g=(h,n+k)∧Ur p g h k∧k≤f
 |0,n,g,hg,_=>⟨g,0,rfl,Ur.start hg,Nat.le_refl _⟩
 |f+1,n,g,hg,hn=>by
  rw [nX,xW,hg.proj]
  cases hi:bF p g.dom with
  |none=>exact⟨g,0,rfl,Ur.start hg,Nat.zero_le _⟩
  |some s=>
   obtain⟨e,h1⟩:=hg.say hs (by omega) hi
   have st:=Nt hg.init hi
   dsimp only
   rw [e]
   dsimp only
   have hlen:(qj g s).lines.length=g.lines.length+1:=by unfold qj;simp
   obtain⟨h,k,e2,r,hk⟩:=OY hs f (n+1) (qj g s) h1 (by omega)
   refine⟨h,k+1,by rw [e2,show n+1+k=n+(k+1) by omega],⟨r.ok,r.decs,by rw [r.len,hlen];omega,r.sub.trans (mI g.dom _ (jD hg.form)),fun c hc hi=>r.keep c hc (st.keep c hc hi),?_,fun h=>by omega⟩,by omega⟩
   have h4:=r.few
   have h5:=st.down
   rw [show (qj g s).dom=restrict g.dom s.lit from rfl] at h4
   omega
end
end Go.Proofs.YtmenphiahgkjkaaGreatDoor.Abs
namespace Go.Proofs.YtmenphiahgkjkaaGreatDoor.Abs
open Go.Proofs
theorem OZ {o:List (List Int)} {m:Nat} {x:List Int} {v:Int} (hx:x∈o) (hv:0≤v∧v < m):x++[v]∈extend o m:=by
 unfold extend pF
 rw [List.mem_flatMap]
 refine⟨x,hx,List.mem_map.2 ⟨v.toNat,List.mem_range.2 (by omega),?_⟩⟩
 rw [show ((v.toNat:Nat):Int)=v by omega]
theorem WY {l:List Int} {n:Nat} (h:l.length=n+1):∃r v,l=r++[v]∧r.length=n:=by
 have hne:l≠[]:=fun e=>by rw [e] at h;cases h
 exact⟨l.dropLast,l.getLast hne,(List.dropLast_concat_getLast hne).symm,by rw [List.length_dropLast];omega⟩
theorem IQ (m:Nat):∀(n:Nat) (l:List Int),l.length=n→(∀v∈l,0≤v∧v < m)→l∈iY m n
 |0,l,h,_=>by rw [List.eq_nil_of_length_eq_zero h];exact List.mem_singleton.2 rfl
 |n+1,l,h,hv=>by
  obtain⟨r,v,rfl,hr⟩:=WY h
  rw [iY]
  exact OZ (IQ m n r hr fun x hx=>hv x (by simp [hx])) (hv v (by simp))
theorem Ms (a:List aC):∀(k:Nat),k≤a.length→∀l:List Int,l.length=k→(∀(i:Nat) (v:Int) (x:aC),l[i]? =some v→a[i]? =some x→0≤v∧v < (x.modes.length:Int))→l∈lJ (a.take k)
 |0,_,l,h,_=>by rw [List.eq_nil_of_length_eq_zero h,List.take_zero];exact List.mem_singleton.2 rfl
 |k+1,hk,l,h,hv=>by
  obtain⟨r,v,rfl,hr⟩:=WY h
  have ha:a[k]? =some (a[k]'(by omega)):=List.getElem?_eq_getElem (by omega)
  rw [Ai ha]
  refine OZ (Ms a k (by omega) r hr fun i u x hi hx=>hv i u x (by rw [List.getElem?_append_left (List.getElem?_eq_some_iff.1 hi).1];exact hi) hx) (hv k v _ (by rw [List.getElem?_append_right (by omega)];simp [hr]) ha)
theorem Nu {p:Proj} {s:aJ} {m:Nat} (hs:bg p s=true) (hd:p.dead≤(m:Int)+1):s∈jo p m:=by
 have hfo:=oV hs
 obtain⟨_,l1,l2⟩:=jI hfo
 have hin:=QW hs
 have hp:aL p=true:=by
  have:=hfo
  simp only [bG,Bool.and_eq_true] at this
  first|exact this.1.1.1|exact this.1.1|exact this.1
 unfold jo
 rw [List.mem_flatMap]
 refine⟨s.modes,?_,List.mem_filter.2 ⟨List.mem_map.2 ⟨s.starts,?_,rfl⟩,hs⟩⟩
 ·have:=Ms p.acts p.acts.length (Nat.le_refl _) s.modes (by omega) fun i v x hi hx=>by
   have hi1:=(List.getElem?_eq_some_iff.1 hx).1
   obtain⟨_,_,h3⟩:=hin i hi1
   rw [(lI hp hi1).2.2,getD_some hi] at h3
   obtain⟨j,rfl,hj⟩:=xK h3
   have ha:=iB (p:=p) hi1
   rw [hx] at ha
   have:x=aZ p i:=Option.some.inj ha
   rw [this];omega
  rwa [List.take_length] at this
 ·refine IQ (m+1) p.acts.length s.starts (by omega) fun v hv=>?_
  obtain⟨i,hi,rfl⟩:=List.getElem_of_mem hv
  obtain⟨h1,h2,_⟩:=hin i (by omega)
  obtain⟨g1,g2,_⟩:=lI hp (k:=i) (by omega)
  rw [g1] at h1
  rw [g2] at h2
  rw [List.getD_eq_getElem?_getD,List.getElem?_eq_getElem hi] at h1 h2
  simp only [Option.getD_some] at h1 h2
  omega
theorem Mt {p:Proj}:∀(M L:List (List Lit)) (b:Dom),ak p b=true→((dS L b).2=true→(dS (L++M) b).2=true)∧((dS (L++M) b).2=true∨bA (dS (L++M) b).1 (dS L b).1 p.acts.length)
 |[],L,b,hf=>by rw [List.append_nil];exact⟨id,.inr (bA.refl _ _)⟩
 |c::M,L,b,hf=>by
  have e:L++c::M=(L++[c])++M:=by simp
  rw [e]
  obtain⟨h1,h2⟩:=Mt M (L++[c]) b hf
  obtain⟨k1,k2⟩:=Mq (p:=p) c (L:=L) hf
  cases hB:(dS L b).2 with
  |true=>
   have:=h1 (by rw [k1 hB];exact hB)
   exact⟨fun _=>this,.inl this⟩
  |false=>
   refine⟨nofun,h2.imp id fun h=>h.trans ?_⟩
   rw [k2 hB]
   exact (wM (wM hf).1).2.1
theorem Dv.more {p:Proj} {g:Lg} (hp:aL p=true) (h:Dv p g) {M:List Lin} (hr:Right p (g.lines++M)):Dv p ⟨g.proj,g.dom,g.decs,g.lines++M⟩:=by
 refine⟨h.proj,h.form,h.init,h.full,h.few,h.dok,hr,?_⟩
 show (dS ((g.lines++M).map Lin.clause) (jf p g.decs)).2=true∨bA (dS ((g.lines++M).map Lin.clause) (jf p g.decs)).1 g.dom p.acts.length
 rw [List.map_append]
 obtain⟨k1,k2⟩:=Mt (M.map Lin.clause) (g.lines.map Lin.clause) _ (FM hp g.decs)
 rcases h.prop with h1|h1
 ·exact .inl (k1 h1)
 ·exact k2.imp id fun h=>h.trans h1
attribute [local irreducible] bF fM aD status litValue single choice bg
theorem Aj:∀(f n:Nat) (g:Lg),(dB f n g).1.decs=g.decs∧(dB f n g).1.proj=g.proj∧∃M,(dB f n g).1.lines=g.lines++M
 |0,n,g=>⟨rfl,rfl,[],by rw [List.append_nil];rfl⟩
 |f+1,n,g=>by
  rw [nX]
  cases hs:oQ g with
  |none=>exact⟨rfl,rfl,[],by rw [List.append_nil]⟩
  |some k=>
   dsimp only
   obtain⟨h1,h2,M,h3⟩:=Aj f (n+1) k
   have:k.decs=g.decs∧k.proj=g.proj∧∃x,k.lines=g.lines++[x]:=by
    unfold oQ at hs
    split at hs
    ·cases hs
    ·unfold oP at hs
     split at hs
     ·cases hs;exact⟨rfl,rfl,_,rfl⟩
     ·cases hs
   obtain⟨g1,g2,x,g3⟩:=this
   exact⟨h1.trans g1,h2.trans g2,x::M,by rw [h3,g3];simp⟩
theorem Co {h k:Lg} (e:jC h=some k):∃r,k.lines=h.lines++[dP h r]++[bD h]:=by
 rw [xX] at e
 split at e
 ·cases e
 ·split at e
  ·cases e;exact⟨_,rfl⟩
  ·cases e
def Told (c:List Lit) (w:Way):Prop:=w.stopped=false→w.found=none→∃x∈w.lines,x.clause=c
theorem FP {h:Lg} {rec:Int→Lg→Way}:∀(xs:List Lit) (ls:List Lin) (v:Int),Told (dh (h.decs.map negate)) (gu h rec xs ls v)
 |[],ls,v=>by
  rw [Ag]
  intro h1 h2
  unfold iJ at h1 ⊢
  split at h1
  ·rename_i hc
   rw [if_pos hc]
   exact⟨bD h,by simp,rfl⟩
  ·cases h1
 |x::xs,ls,v=>by
  rcases hw:dH h rec x ls v with⟨a,b,_|c,_|_⟩
  ·rw [iC hw];exact FP xs a b
  ·rw [bQ hw (by simp)];exact fun h1=>(by cases h1)
  ·rw [bQ hw (by simp)];exact fun _ h2=>(by cases h2)
  ·rw [bQ hw (by simp)];exact fun h1=>(by cases h1)
theorem Rm (h:Lg) (rec:Int→Lg→Way) (v:Int):Told (dh (h.decs.map negate)) (eB h rec v):=by
 unfold eB
 split
 ·rename_i k hk
  obtain⟨r,e⟩:=Co hk
  intro _ _
  exact⟨bD h,by rw [e];simp,rfl⟩
 ·split
  ·exact fun _ h2=>(by cases h2)
  ·split
   ·exact fun h1=>(by cases h1)
   ·exact FP _ _ _
def XV (ls:List Lin) (w:Way):Prop:=∃M,w.lines=ls++M
theorem FQ {h:Lg} {rec:Int→Lg→Way} (hrec:∀v n,XV n.lines (rec v n)):∀(xs:List Lit) (ls:List Lin) (v:Int),XV ls (gu h rec xs ls v)
 |[],ls,v=>by
  rw [Ag]
  unfold iJ
  split
  ·exact⟨_,rfl⟩
  ·exact⟨[],by simp⟩
 |x::xs,ls,v=>by
  have hs:XV ls (dH h rec x ls v):=by
   cases ht:takeLog (dw h ls) x with
   |none=>rw [iK ht];exact⟨[],by simp⟩
   |some n=>
    rw [iL ht]
    have:=hrec v n
    rw [(jK ht).2.2.2] at this
    exact this
  rcases hw:dH h rec x ls v with⟨a,b,_|c,_|_⟩
  ·rw [hw] at hs
   rw [iC hw]
   obtain⟨M,e⟩:=hs
   obtain⟨N,e2⟩:=FQ hrec xs a b
   exact⟨M++N,by rw [e2,show a=ls++M from e,List.append_assoc]⟩
  all_goals
   rw [bQ hw (by simp)]
   rw [hw] at hs;exact hs
theorem FR {h:Lg} {rec:Int→Lg→Way} (hrec:∀v n,XV n.lines (rec v n)) (v:Int):XV h.lines (eB h rec v):=by
 unfold eB
 split
 ·rename_i k hk
  obtain⟨r,e⟩:=Co hk
  exact⟨[dP h r]++[bD h],by rw [e];simp⟩
 ·split
  ·exact⟨[],by simp⟩
  ·split
   ·exact⟨[],by simp⟩
   ·exact FQ hrec _ _ _
theorem Us (most:Int):∀(f:Nat) (v:Int) (g:Lg),XV g.lines (vis most f v g)
 |0,v,g=>⟨[],by simp [vis]⟩
 |f+1,v,g=>by
  by_cases e:v=most
  ·subst e;rw [wK];exact⟨[],by simp⟩
  ·rw [pq _ _ _ _ e]
   obtain⟨_,_,M,h⟩:=Aj 40 0 g
   obtain⟨N,h2⟩:=FR (h:=(dB 40 0 g).1) (rec:=fun v g=>vis most f v g) (fun v n=>Us most f v n) (v+1)
   exact⟨M++N,by rw [h2,h,List.append_assoc]⟩
def Good (p:Proj) (w:Way):Prop:=∀s,w.found=some s→bg p s=true
theorem Cq {h:Lg} {rec:Int→Lg→Way} (hrec:∀v n,n.proj=h.proj→Good h.proj (rec v n)):∀(xs:List Lit) (ls:List Lin) (v:Int),Good h.proj (gu h rec xs ls v)
 |[],ls,v=>by
  rw [Ag]
  unfold iJ
  split<;>exact fun s hs=>(by cases hs)
 |x::xs,ls,v=>by
  have hs:Good h.proj (dH h rec x ls v):=by
   cases ht:takeLog (dw h ls) x with
   |none=>rw [iK ht];exact fun s hs=>(by cases hs)
   |some n=>
    rw [iL ht]
    exact hrec v n (jK ht).1
  rcases hw:dH h rec x ls v with⟨a,b,_|c,_|_⟩
  ·rw [iC hw];exact Cq hrec xs a b
  all_goals
   rw [bQ hw (by simp)]
   rw [hw] at hs;exact hs
theorem VR {h:Lg} {s:aJ} (e:mJ h=some s):bg h.proj s=true:=by
 unfold mJ at e
 split at e
 ·cases e
 ·split at e
  ·cases e;assumption
  ·cases e
theorem Cr {h:Lg} {rec:Int→Lg→Way} (hrec:∀v n,n.proj=h.proj→Good h.proj (rec v n)) (v:Int):Good h.proj (eB h rec v):=by
 unfold eB
 split
 ·exact fun s hs=>(by cases hs)
 ·split
  ·rename_i s hs
   intro s' h'
   cases h'
   exact VR hs
  ·split
   ·exact fun s hs=>(by cases hs)
   ·exact Cq hrec _ _ _
theorem Pb (most:Int):∀(f:Nat) (v:Int) (g:Lg),Good g.proj (vis most f v g)
 |0,v,g=>fun s hs=>(by cases hs)
 |f+1,v,g=>by
  by_cases e:v=most
  ·subst e;rw [wK];exact fun s hs=>(by cases hs)
  ·rw [pq _ _ _ _ e]
   have h:=(Aj 40 0 g).2.1
   have:=Cr (h:=(dB 40 0 g).1) (rec:=fun v g=>vis most f v g) (fun v n hn=>by rw [← hn];exact Pb most f v n) (v+1)
   rw [h] at this;exact this
structure aaA (p:Proj) (F:Ri):Prop where
 lo:1≤F.visits
 hi:F.visits≤60
 right:(mW p F.log.lines).1=0
 one:¬(F.stopped=true∧F.found=true)
 stop:F.stopped=true→tu F.log=true
 got:F.found=true→bg p F.sched=true
 none:F.found=false→F.stopped=false→nI p F.log.lines=true
 proj:F.log.proj=p
theorem Rn {p:Proj} (hs:Small p):aaA p (dQ ⟨p,bf p,[],[]⟩ 60):=by
 have hF:=(Uq hs.ok).aem hs.ok (by decide)
 have hk:=hF.ok hs.ok
 have B:=budget ⟨p,bf p,[],[]⟩ 60 ⟨by decide,by decide⟩
 have w2:within 60 1 60=true:=by decide
 have e1:dQ ⟨p,bf p,[],[]⟩ 60=Dt (dB 40 0 ⟨p,bf p,[],[]⟩).1 (vis 60 ((60:Int).toNat+1) 0 ⟨p,bf p,[],[]⟩):=by unfold dQ;rw [if_pos ⟨hk,w2⟩]
 obtain⟨b1,b2,b3,_,_⟩:=B
 rw [e1] at b1 b2 b3 ⊢
 obtain⟨h,k,er,hr,_⟩:=OY hs 40 0 _ hF (by show 0+40≤290;decide)
 have hv:vis 60 ((60:Int).toNat+1) 0 ⟨p,bf p,[],[]⟩=eB h (fun v g=>vis 60 (60:Int).toNat v g) 1:=by
  rw [pq _ _ _ _ (by decide),er];rfl
 rw [hv,er] at b1 b2 b3 ⊢
 have hR:=GY 60 ((60:Int).toNat+1) 0 ⟨p,bf p,[],[]⟩ (Right.nil p)
 rw [hv] at hR
 have hT:=Rm h (fun v g=>vis 60 (60:Int).toNat v g) 1
 have hG:=Cr (h:=h) (rec:=fun v g=>vis 60 (60:Int).toNat v g) (fun v n hn=>by rw [← hn];exact Pb 60 _ v n) 1
 obtain⟨M,hM⟩:=FR (h:=h) (rec:=fun v g=>vis 60 (60:Int).toNat v g) (fun v n=>Us 60 _ v n) 1
 have hlo:1≤(eB h (fun v g=>vis 60 (60:Int).toNat v g) 1).visits:=by
  unfold eB
  split
  ·exact Int.le_refl _
  ·split
   ·exact Int.le_refl _
   ·split
    ·exact Int.le_refl _
    ·exact (qp (most:=60) (fun v g hv=>kP 60 _ v g hv) _ _ _ (by decide)).1
 generalize eB h (fun v g=>vis 60 (60:Int).toNat v g) 1=w at*
 have hp:=hr.ok.proj
 rw [hp] at hG
 rw [hr.decs] at hT
 refine⟨hlo,b1,b2,b3,fun _=>?_,fun hf=>?_,fun h1 h2=>?_,hp⟩
 ·have:(Dt h w).log=⟨h.proj,h.dom,h.decs,h.lines++M⟩:=by unfold Dt dw;rw [hM]
  rw [this]
  exact (hr.ok.more hs.ok (by rw [← hM];exact hR)).ok hs.ok
 ·obtain⟨s,hs'⟩:=Option.isSome_iff_exists.1 hf
  have:=hG s hs'
  show bg p (w.found.getD ⟨[],[]⟩)=true
  rw [hs'];exact this
 ·obtain⟨x,hx,hc⟩:=hT h2 (by
   cases hw:w.found with
   |none=>rfl
   |some s=>have:w.found.isSome=false:=h1;rw [hw] at this;cases this)
  unfold nI
  rw [show jT p (Dt h w).log.lines=true from Cn hR,Bool.true_and,List.any_eq_true]
  refine⟨x,hx,?_⟩
  rw [hc];rfl
end Go.Proofs.YtmenphiahgkjkaaGreatDoor.Abs
