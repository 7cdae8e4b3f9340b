/- Contracts: logs that are drawn, propagated, compared. -/
import Derived.Test.YtgkfifiobmklcaaGreatLb
import Derived.Test.YtgkfifiobmklcaaGreatVis
import Derived.Test.YtgkfifiobmklcaaGreatDr
import Derived.Test.YtgkfifiobmklcaaGreatC65
import Derived.Test.YtgkfifiobmklcaaGreatCz
import Derived.Test.YtgkfifiobmklcaaGreatC15
import Derived.Test.YtgkfifiobmklcaaGreatC51
set_option linter.all false
set_option maxRecDepth 20000
set_option maxHeartbeats 0
namespace Go.Proofs.YtgkfifiobmklcaaGreat.Abs
open Go.Proofs
attribute [local irreducible] below bq dQ aH fJ restrict aL ni iR
theorem NA (a b:List Int):Con 58 [.d (.sl (a.map i64)),.d (.sl (b.map i64))] (.d (.bool (decide (a=b)))):=by
 refine con Tryz.func58 rfl rfl Tryz.call58 rfl fun hwf=>?_
 simp only [ARs.wf,AR.wf,AV.wf,AV.wfs,lm,lim] at hwf
 by_cases hl:a.length=b.length
 rotate_left
 ·rw [decide_eq_false fun h=>hl (by rw [h])]
  (repeat' ((conv=>whnf);first|refine gA ?_|(refine gB ?_ ?_<;>intro h)|(refine gI ?_;intro x hx)|(refine gJ ?_;intro j x hj hx)|refine gV ?_|intro _))<;>try (conv=>whnf)
  all_goals first
   |(exfalso;omega)
   |exact fv
 (repeat' ((conv=>whnf);first|refine gA ?_|(refine gB ?_ ?_<;>intro h)|(refine gI ?_;intro x hx)|(refine gJ ?_;intro j x hj hx)|refine gV ?_|intro _))<;>try (conv=>whnf)
 all_goals first
  |(exfalso;omega)
  |skip
 refine aB [0,1,12] [] [] ?_
 (conv=>whnf)
 refine aA.go ((Nat)) (fun k=>(k≤a.length)∧(a.take k=b.take k)) (fun k=>[(13,.data (i64 k))]) (fun _=>[]) (fun _=>[]) (fun k=>a.length - k) (0) ?_ ?_
 ·exact⟨Nat.zero_le _,by simp⟩
 rintro k ⟨hk,hi⟩
 by_cases hlt:k < a.length
 ·obtain⟨x,hx⟩:∃x,a[k]? =some x:=⟨a[k]'hlt,by simp⟩
  obtain⟨y,hy⟩:∃y,b[k]? =some y:=⟨b[k]'(by omega),by simp⟩
  by_cases hxy:x=y
  ·(repeat' ((conv=>whnf);first|with_reducible refine Idx.got hx rfl ?_|with_reducible refine Idx.got hy rfl ?_|with_reducible refine Br.yes (decide_eq_true hxy) ?_|(exfalso;omega)|refine gA ?_|(refine gB ?_ ?_<;>intro h)|(refine gI ?_;intro x hx)|(refine gJ ?_;intro j x hj hx)|refine gV ?_|intro _))<;>try (conv=>whnf)
   refine nx (k+1) ?_
   exact⟨by omega,by rw [List.take_add_one,List.take_add_one,hi,hx,hy,hxy]⟩
  ·have hne:a≠b:=fun h=>hxy (by rw [h,hy] at hx;exact (Option.some.inj hx).symm)
   rw [decide_eq_false hne]
   (repeat' ((conv=>whnf);first|with_reducible refine Idx.got hx rfl ?_|with_reducible refine Idx.got hy rfl ?_|with_reducible refine Br.no (decide_eq_false hxy) ?_|(exfalso;omega)|refine gA ?_|(refine gB ?_ ?_<;>intro h)|(refine gI ?_;intro x hx)|(refine gJ ?_;intro j x hj hx)|refine gV ?_|intro _))<;>try (conv=>whnf)
   exact fv
 ·have he:a=b:=by rw [List.take_of_length_le (l:=a) (by omega),List.take_of_length_le (l:=b) (by omega)] at hi;exact hi
  rw [decide_eq_true he]
  (repeat' ((conv=>whnf);first|(exfalso;omega)|refine gA ?_|(refine gB ?_ ?_<;>intro h)|(refine gI ?_;intro x hx)|(refine gJ ?_;intro j x hj hx)|refine gV ?_|intro _))<;>try (conv=>whnf)
  exact fv
theorem YO (a b:List (List Int)):Con 59 [.d (.sl (a.map ints)),.d (.sl (b.map ints)),.fn 58 []] (.d (.bool (decide (a=b)))):=by
 refine con Tryz.func59 rfl rfl Tryz.call59 rfl fun hwf=>?_
 simp only [ARs.wf,AR.wf,AV.wf,AV.wfs,lm,lim] at hwf
 by_cases hl:a.length=b.length
 rotate_left
 ·rw [decide_eq_false fun h=>hl (by rw [h])]
  (repeat' ((conv=>whnf);first|refine gA ?_|(refine gB ?_ ?_<;>intro h)|(refine gI ?_;intro x hx)|(refine gJ ?_;intro j x hj hx)|refine gV ?_|intro _))<;>try (conv=>whnf)
  all_goals first
   |(exfalso;omega)
   |exact fv
 (repeat' ((conv=>whnf);first|refine gA ?_|(refine gB ?_ ?_<;>intro h)|(refine gI ?_;intro x hx)|(refine gJ ?_;intro j x hj hx)|refine gV ?_|intro _))<;>try (conv=>whnf)
 all_goals first
  |(exfalso;omega)
  |skip
 refine aB [1,2,15,16] [] [] ?_
 (conv=>whnf)
 refine aA.go ((Nat)) (fun k=>(k≤a.length)∧(a.take k=b.take k)) (fun k=>[(17,.data (i64 k))]) (fun _=>[]) (fun _=>[]) (fun k=>a.length - k) (0) ?_ ?_
 ·exact⟨Nat.zero_le _,by simp⟩
 rintro k ⟨hk,hi⟩
 by_cases hlt:k < a.length
 ·obtain⟨x,hx⟩:∃x,a[k]? =some x:=⟨a[k]'hlt,by simp⟩
  obtain⟨y,hy⟩:∃y,b[k]? =some y:=⟨b[k]'(by omega),by simp⟩
  have hC:=NA x y
  by_cases hxy:x=y
  ·rw [decide_eq_true hxy] at hC
   (repeat' ((conv=>whnf);first|with_reducible refine Idx.got hx rfl ?_|with_reducible refine Idx.got hy rfl ?_|(exfalso;omega)|refine gA ?_|(refine gB ?_ ?_<;>intro h)|(refine gI ?_;intro x hx)|(refine gJ ?_;intro j x hj hx)|refine gV ?_|refine gC (hC) ?_|intro _))<;>try (conv=>whnf)
   refine nx (k+1) ?_
   exact⟨by omega,by rw [List.take_add_one,List.take_add_one,hi,hx,hy,hxy]⟩
  ·rw [decide_eq_false hxy] at hC
   have hne:a≠b:=fun h=>hxy (by rw [h,hy] at hx;exact (Option.some.inj hx).symm)
   rw [decide_eq_false hne]
   (repeat' ((conv=>whnf);first|with_reducible refine Idx.got hx rfl ?_|with_reducible refine Idx.got hy rfl ?_|(exfalso;omega)|refine gA ?_|(refine gB ?_ ?_<;>intro h)|(refine gI ?_;intro x hx)|(refine gJ ?_;intro j x hj hx)|refine gV ?_|refine gC (hC) ?_|intro _))<;>try (conv=>whnf)
   exact fv
 ·have he:a=b:=by rw [List.take_of_length_le (l:=a) (by omega),List.take_of_length_le (l:=b) (by omega)] at hi;exact hi
  rw [decide_eq_true he]
  (repeat' ((conv=>whnf);first|(exfalso;omega)|refine gA ?_|(refine gB ?_ ?_<;>intro h)|(refine gI ?_;intro x hx)|(refine gJ ?_;intro j x hj hx)|refine gV ?_|intro _))<;>try (conv=>whnf)
  exact fv
theorem Gy (a b:Dom):Con 14 [.d a.av,.d b.av] (.d (.bool (decide (a.lo=b.lo)&&(decide (a.hi=b.hi)&&decide (a.modes=b.modes))))):=by
 refine con Tryz.func14 rfl rfl Tryz.call14 rfl fun hwf=>?_
 have E1:=NA a.lo b.lo
 have E2:=NA a.hi b.hi
 have E3:=YO a.modes b.modes
 generalize decide (a.lo=b.lo)=t1 at E1 ⊢
 generalize decide (a.hi=b.hi)=t2 at E2 ⊢
 generalize decide (a.modes=b.modes)=t3 at E3 ⊢
 cases t1<;>cases t2<;>cases t3
 all_goals
  (repeat' ((conv=>whnf);first|refine gA ?_|(refine gB ?_ ?_<;>intro h)|refine gC (E1) ?_|refine gC (E2) ?_|refine gC (E3) ?_|intro _))<;>try (conv=>whnf)
  exact fv
theorem Vk (l m:List Lin) (fc:Nat) (h:l.length≠m.length):Con 45 [.d (.sl (l.map Lin.av)),.d (.sl (m.map Lin.av)),.fn fc []] (.d (.bool false)):=by
 refine con Tryz.func45 rfl rfl Tryz.call45 rfl fun hwf=>?_
 simp only [ARs.wf,AR.wf,AV.wf,AV.wfs,lm,lim] at hwf
 (repeat' ((conv=>whnf);first|refine gA ?_|(refine gB ?_ ?_<;>intro h)|(refine gI ?_;intro x hx)|(refine gJ ?_;intro j x hj hx)|refine gV ?_|intro _))<;>try (conv=>whnf)
 all_goals first
  |(exfalso;omega)
  |exact fv
theorem Ip (g h:Lg) (e1:h.proj=g.proj) (e2:h.decs=g.decs) (hn:g.lines.length≠h.lines.length):Con 10 [.d g.av,.d h.av] (.d (.bool false)):=by
 refine con Tryz.func10 rfl rfl Tryz.call10 rfl fun hwf=>?_
 clear hwf
 obtain⟨gp,gd,gc,gl⟩:=g
 obtain⟨hp,hd,hc,hl⟩:=h
 dsimp only at e1 e2 hn
 subst e1 e2
 have E1:=Gy gd hd
 have E2:=Vk gl hl 46 hn
 generalize (decide (gd.lo=hd.lo)&&(decide (gd.hi=hd.hi)&&decide (gd.modes=hd.modes)))=t at E1
 cases t
 all_goals
  (repeat' ((conv=>whnf);first|refine gA ?_|(refine gB ?_ ?_<;>intro h)|refine gC (vw hp) ?_|refine gC (E1) ?_|refine gC (mO hc) ?_|refine gC (E2) ?_|intro _))<;>try (conv=>whnf)
  exact fv
theorem wS (l:List Lit):Con 21 [.d (lits l),.d (lits l)] (.d (.bool true)):=by
 refine con Tryz.func21 rfl rfl Tryz.call21 rfl fun hwf=>?_
 (repeat' ((conv=>whnf);first|refine gA ?_|(refine gB ?_ ?_<;>intro h)|refine gC (mO l) ?_|intro _))<;>try (conv=>whnf)
 exact fv
theorem nQ (g:Lg) (most:Nat) (hp:g.proj.fine) (ho:ni g=true) (hm:most≤60):Con 9 [.d g.av,.d (i64 most)] (Yx (iR most 0 g)):=by
 refine con Tryz.func9 rfl rfl Tryz.call9 rfl fun hwf=>?_
 have hO:=iB g hp
 have hW:=aV most 0 60
 rw [ho] at hO
 rw [show within (most:Int) 0 60=true from within_iff.2 (by omega)] at hW
 have hP:=Nc g most hp hm
 rw [Yx] at hP ⊢
 (repeat' ((conv=>whnf);first|refine gA ?_|(refine gN ?_ ?_<;>intro h hw)|(refine gB ?_ ?_<;>intro h)|refine gC (hO) ?_|refine gC (hW) ?_|refine gC (vO g) ?_|refine gC (hP) ?_|intro _))<;>try (conv=>whnf)
 exact fv
theorem ug (g:Lg) (s:Infer) (hp:g.proj.fine) (ho:ni g=true):Con 12 [.d g.av,.d s.av] (oW (nP g s)):=by
 refine con Tryz.func12 rfl rfl Tryz.call12 rfl fun hwf=>?_
 have hO:=iB g hp
 rw [ho] at hO
 have hP:=CF g s hp
 rw [oW] at hP ⊢
 (repeat' ((conv=>whnf);first|refine gA ?_|(refine gB ?_ ?_<;>intro h)|refine gC (hO) ?_|refine gC (hP) ?_|intro _))<;>try (conv=>whnf)
 exact fv
def Qe (p:Proj) (code:List Int) (turn:Int):Lit:=(fJ p (EU (qZ code) turn)).1
theorem Sk (p:Proj) (hp:aG p=true) (code:List Int) (turn:Int) (ht:0≤turn∧turn≤1000):Con 24 [.d (u8s code),.d p.av,.d (i64 turn)] (.d (Qe p code turn).av):=by
 refine con Tryz.func24 rfl rfl Tryz.call24 rfl fun hwf=>?_
 clear hwf
 have hc:=xL (pX code) turn
 have BC:=Gx p hp _ hc
 unfold Qe
 generalize fJ p (EU (qZ code) turn)=q at BC ⊢
 obtain⟨l,c1⟩:=q
 dsimp only at BC ⊢
 (repeat' ((conv=>whnf);first|refine gA ?_|refine Arith.raw ?_|refine gA ?_|(refine gB ?_ ?_<;>intro h)|refine gV ?_|refine gC (Ar code) ?_|refine gC (BC) ?_|intro _))<;>try (conv=>whnf)
 exact fv
def XH (p:Proj) (q:Lg×Cur):Lg×Cur:=(if aL (restrict q.1.dom (fJ p q.2).1)=true then q.1 else⟨q.1.proj,restrict q.1.dom (fJ p q.2).1,q.1.decs++[(fJ p q.2).1],q.1.lines⟩,(fJ p q.2).2)
theorem yH (p:Proj) (hp:aG p=true) (hpf:p.fine) (code:List Int):Con 7 [.d (u8s code),.d p.av] (.d (yU p code).av):=by
 refine con Tryz.func7 rfl rfl Tryz.call7 rfl fun hwf=>?_
 clear hwf
 have hc:=xL (pX code) 23
 have BI:=UC p hpf
 rw [Ae,if_pos hp,oW] at BI
 dsimp only [Option.getD,Option.isSome] at BI
 unfold yU
 generalize hcc:EU (qZ code) 23=cc at hc ⊢
 obtain⟨n,c1,e1,h1,n0,n1⟩:=aC hc 3
 have n1:=n1 (by decide)
 have D1:=dM e1 hc (by decide)
 rw [← hcc] at D1
 dsimp only
 rw [e1]
 dsimp only
 have hinv:=fun j=>Qc hp h1 j
 (repeat' ((conv=>whnf);first|refine gA ?_|refine Arith.raw ?_|refine gA ?_|(refine gB ?_ ?_<;>intro h)|refine gV ?_|refine gC (Ar code) ?_|refine gC (BI) ?_|refine gC (D1) ?_|intro _))<;>try (conv=>whnf)
 refine aB [3,4,5,6] [3,4] [] ?_
 (conv=>whnf)
 refine aA.mk ((Nat)) (fun j=>((j:Int)≤n)) (fun j=>[(8,.data (i64 (n - j)))]) (fun j=>[(6,(AV.cells (itN (jv p) j ⟨p,aW p,[],[]⟩ c1).1.av).map SV.data),(11,[.data (u8s (itN (jv p) j ⟨p,aW p,[],[]⟩ c1).2.b),.data (i64 (itN (jv p) j ⟨p,aW p,[],[]⟩ c1).2.i),.data (i64 (itN (jv p) j ⟨p,aW p,[],[]⟩ c1).2.h)])]) (fun _=>[]) (fun j=>n.toNat - j) (0) ?_ ?_ ?_
 rotate_left
 ·(repeat' ((conv=>whnf)<;>(first|exact trivial|exact rfl|with_reducible refine And.intro ?_ ?_)))<;>((conv=>whnf)<;>(exact congrArg (AV.int .i64) (by omega)))
 rotate_left
 ·omega
 rintro j hj
 obtain⟨g1,g2⟩:=hinv j
 by_cases hlt:(j:Int) < n
 ·have e3:itN (jv p) (j+1) ⟨p,aW p,[],[]⟩ c1=XH p (itN (jv p) j ⟨p,aW p,[],[]⟩ c1):=rfl
  generalize hq:itN (jv p) j ⟨p,aW p,[],[]⟩ c1=q at g1 g2 e3 ⊢
  obtain⟨g,cu⟩:=q
  dsimp only at g1 g2 e3 ⊢
  unfold XH at e3
  dsimp only at e3
  have hR:=g1.aal hp (by omega)
  have BD:=Gx p hp cu g2
  have hlo:=(yw hp g2).1
  generalize fJ p cu=y at BD e3 hlo
  obtain⟨x,cv⟩:=y
  dsimp only at BD e3 hlo
  have BR:=Cn g.dom x (fun m hm=>WQ hR.form hm)
  have BE:=Ht (restrict g.dom x)
  have BP:=YD g x (by rw [hR.proj];exact hpf) hR.few (fun m hm=>NZ hR.form hm)
  cases he:aL (restrict g.dom x) with
  |true=>
   rw [he] at BE
   rw [he,if_pos rfl] at e3
   (repeat' ((conv=>whnf);first|(exfalso;omega)|refine gA ?_|(refine gB ?_ ?_<;>intro h)|refine gV ?_|refine gC (BD) ?_|refine gC (BR) ?_|refine gC (BE) ?_|intro _))<;>try (conv=>whnf)
   refine nw (j+1) ?_ ?_
   ·(repeat' ((conv=>whnf)<;>(first|exact trivial|exact rfl|with_reducible refine And.intro ?_ ?_)))<;>((conv=>whnf)<;>(first|exact congrArg (AV.int .i64) (by omega)|(simp only [e3];done)))
   omega
  |false=>
   rw [he] at BE
   rw [he,if_neg (by decide)] at e3
   have hlen:g.decs.length≤j:=by obtain⟨l,rfl,h1,_⟩:=g1;exact h1
   have ht:takeLog g x=some ⟨g.proj,restrict g.dom x,g.decs++[x],g.lines⟩:=by
    unfold takeLog;rw [if_pos (by rw [hR.proj,hlo];simp;omega)]
   rw [ht,oW] at BP
   dsimp only [Option.getD,Option.isSome] at BP
   (repeat' ((conv=>whnf);first|(exfalso;omega)|refine gA ?_|(refine gB ?_ ?_<;>intro h)|refine gV ?_|refine gC (BD) ?_|refine gC (BR) ?_|refine gC (BE) ?_|refine gC (BP) ?_|intro _))<;>try (conv=>whnf)
   refine nw (j+1) ?_ ?_
   ·(repeat' ((conv=>whnf)<;>(first|exact trivial|exact rfl|with_reducible refine And.intro ?_ ?_)))<;>((conv=>whnf)<;>(first|exact congrArg (AV.int .i64) (by omega)|(simp only [e3];done)))
   omega
 ·have ej:j=n.toNat:=by omega
  subst ej
  (repeat' ((conv=>whnf);first|(exfalso;omega)|refine gA ?_|(refine gB ?_ ?_<;>intro h)|refine gV ?_|intro _))<;>try (conv=>whnf)
  exact fv
end Go.Proofs.YtgkfifiobmklcaaGreat.Abs
namespace Go.Proofs.YtgkfifiobmklcaaGreat.Abs
open Go.Proofs
theorem rC (code:List Int):(bZ code).fine:=by
 intro a ha
 obtain⟨i,hi,rfl⟩:=List.getElem_of_mem ha
 have h:=((kT code).1.aok i _ (List.getElem?_eq_getElem hi)).1
 simp only [bT,Bool.and_eq_true,vG,within_iff] at h
 have:=h.2.1.1.2.2
 unfold lim;omega
theorem Qf {α β:Type} {f:α→List β} {c:Nat}:∀{l:List α},(∀x∈l,(f x).length≤c)→(l.flatMap f).length≤l.length*c
 |[],_=>by simp
 |x::l,h=>by
  rw [List.flatMap_cons,List.length_append,List.length_cons,Nat.succ_mul]
  have:=Qf (l:=l) fun y hy=>h y (List.mem_cons_of_mem _ hy)
  have:=h x (List.mem_cons_self ..)
  omega
theorem Au {p:Proj} (ho:aG p=true) (h3:p.acts.length≤3) {m:Nat} (hm:m≤12):(jW p m).length≤27*2197:=by
 have hL:(mX p.acts).length≤27:=by
  refine Nat.le_trans (DX fun a ha=>?_) (Nat.le_trans (Nat.pow_le_pow_right (by decide) h3) (by decide))
  obtain⟨j,hj,e⟩:=List.mem_iff_getElem.1 ha
  have:=iA ho hj
  have hg:=gM (p:=p) hj
  rw [List.getElem?_eq_getElem hj,Option.some.injEq,e] at hg
  rw [hg];exact this.2
 unfold jW
 refine Nat.le_trans (Qf (c:=2197) fun ms _=>?_) (Nat.mul_le_mul_right _ hL)
 refine Nat.le_trans (List.length_filter_le _ _) ?_
 rw [List.length_map,vo]
 calc (m+1) ^ p.acts.length≤13 ^ p.acts.length:=Nat.pow_le_pow_left (by omega) _
  _≤13 ^ 3:=Nat.pow_le_pow_right (by decide) h3
theorem rG (p:Proj) (b:Dom) (hp:p.fine) (ho:aG p=true) (h3:p.acts.length≤3) (m:Nat) (hm:m≤12):Con 27 [.d p.av,.d b.av,.d (i64 m)] (.d (i64 (DU p b m))):=by
 refine con Tryz.func27 rfl rfl Tryz.call27 rfl fun hwf=>?_
 clear hwf
 have BA:=vv p hp ho h3 m hm
 have hSl:=Au ho h3 hm
 unfold DU
 generalize jW p m=S at BA hSl
 (repeat' ((conv=>whnf);first|refine gA ?_|(refine gB ?_ ?_<;>intro h)|(refine gI ?_;intro x hx)|(refine gJ ?_;intro j x hj hx)|refine gV ?_|refine gC (BA) ?_|intro _))<;>try (conv=>whnf)
 refine aB [4,12,13] [4] [] ?_
 (conv=>whnf)
 refine aA.go ((Nat)) (fun k=>(k≤S.length)) (fun k=>[(14,.data (i64 k)),(7,.data (i64 (((S.take k).filter (contains b)).length:Nat)))]) (fun _=>[]) (fun _=>[]) (fun k=>S.length - k) (0) ?_ ?_
 ·exact Nat.zero_le _
 rintro k hk
 by_cases hlt:k < S.length
 rotate_left
 ·(repeat' ((conv=>whnf);first|(exfalso;omega)|refine gA ?_|(refine gB ?_ ?_<;>intro h)|(refine gI ?_;intro x hx)|(refine gJ ?_;intro j x hj hx)|refine gV ?_|intro _))<;>try (conv=>whnf)
  refine⟨?_,rfl,trivial⟩
  rw [List.take_of_length_le (by omega)]
 obtain⟨s,hs⟩:∃x,S[k]? =some x:=⟨S[k]'hlt,by simp⟩
 have BK:=Ow b s
 have hl:=List.length_filter_le (contains b) (S.take k)
 rw [List.length_take,Nat.min_eq_left hk] at hl
 have hst:(S.take (k+1)).filter (contains b)=(S.take k).filter (contains b)++(if contains b s=true then [s] else []):=by
  rw [List.take_add_one,hs,List.filter_append];simp [List.filter_cons]
 cases hc:contains b s with
 |true=>
  rw [hc] at BK hst
  (repeat' ((conv=>whnf);first|with_reducible refine Idx.got hs rfl ?_|(exfalso;omega)|refine gA ?_|(refine gB ?_ ?_<;>intro h)|(refine gI ?_;intro x hx)|(refine gJ ?_;intro j x hj hx)|refine gV ?_|refine gC (BK) ?_|intro _))<;>try (conv=>whnf)
  refine nw (k+1) ?_ ?_
  ·(repeat' ((conv=>whnf)<;>(first|exact trivial|exact rfl|with_reducible refine And.intro ?_ ?_)))<;>((conv=>whnf)<;>((rw [hst];simp)))
  exact (by omega:k+1≤S.length)
 |false=>
  rw [hc] at BK hst
  (repeat' ((conv=>whnf);first|with_reducible refine Idx.got hs rfl ?_|(exfalso;omega)|refine gA ?_|(refine gB ?_ ?_<;>intro h)|(refine gI ?_;intro x hx)|(refine gJ ?_;intro j x hj hx)|refine gV ?_|refine gC (BK) ?_|intro _))<;>try (conv=>whnf)
  refine nw (k+1) ?_ ?_
  ·(repeat' ((conv=>whnf)<;>(first|exact trivial|exact rfl|with_reducible refine And.intro ?_ ?_)))<;>((conv=>whnf)<;>((rw [hst];simp)))
  exact (by omega:k+1≤S.length)
open Go.Proofs
attribute [local irreducible] jM acT ni
theorem Gz (g:Lg) (hp:g.proj.fine) (ho:ni g=true):Con 16 [.d g.av] (oW (jM g)):=by
 refine con Tryz.func16 rfl rfl Tryz.call16 rfl fun hwf=>?_
 have hO:=iB g hp
 rw [ho] at hO
 have hC:=FZ g hp
 generalize jM g=R at hC ⊢
 cases R with
 |none=>rw [WE] at hC;rw [oW];dsimp only [Option.getD,Option.isSome];(repeat' ((conv=>whnf);first|refine gA ?_|(refine gB ?_ ?_<;>intro h)|refine gC (hO) ?_|refine gC (hC) ?_|intro _))<;>try (conv=>whnf);exact fv
 |some h=>rw [WC] at hC;rw [oW];dsimp only [Option.getD,Option.isSome];(repeat' ((conv=>whnf);first|refine gA ?_|(refine gB ?_ ?_<;>intro h)|refine gC (hO) ?_|refine gC (hC) ?_|intro _))<;>try (conv=>whnf);exact fv
theorem Kj (g:Lg) (l:Lit) (hp:g.proj.fine) (ho:ni g=true) (hl:bJ g.proj l=true) (hn:g.decs.length < 20):Con 23 [.d g.av,.d l.av] (.tup [.d (Lg.av ⟨g.proj,restrict g.dom l,g.decs++[l],g.lines⟩),.d (.bool true)]):=by
 refine con Tryz.func23 rfl rfl Tryz.call23 rfl fun hwf=>?_
 simp only [ARs.wf,AR.wf,AV.wf,AV.wfs,lm,lim] at hwf
 have hO:=iB g hp
 rw [ho] at hO
 have hL:=oL g.proj l hp
 rw [hl] at hL
 (repeat' ((conv=>whnf);first|(exfalso;omega)|refine gA ?_|(refine gB ?_ ?_<;>intro h)|refine gP ?_|refine gC (hO) ?_|refine gC (hL) ?_|refine gC (vO g) ?_|refine gC (FI g.dom l) ?_|intro _))<;>try (conv=>whnf)
 (repeat' ((conv=>whnf)<;>(first|exact trivial|exact VC.nod (by kernel_rfl)|refine VC.mk rfl ?_|refine VC.mk (by simp) ?_)))
end Go.Proofs.YtgkfifiobmklcaaGreat.Abs
