/- Contracts: sets that grow. -/
import Derived.Test.YtefgamefajmdkaaGreatSet
import Derived.Test.YtefgamefajmdkaaGreatC9
import Derived.Test.YtefgamefajmdkaaGreatC26
set_option linter.all false
set_option maxRecDepth 20000
set_option maxHeartbeats 0
namespace Go.Proofs.YtefgamefajmdkaaGreat.Abs
open Go.Proofs
theorem RA (l:List Int):(setOf l).Pairwise (· < ·):=(wI (l:=l) (o:=[]) List.Pairwise.nil).1
theorem vo {l:List Int} {x:Int}:x∈setOf l↔x∈l:=by
 have:=(wI (l:=l) (o:=[]) List.Pairwise.nil).2 x
 exact this.trans (by simp)
theorem RB {l m:List Int} (hm:m.Pairwise (· < ·)) (h:∀x,x∈m↔x∈l):setOf l=m:=Hw (RA l) hm fun x=>vo.trans (h x).symm
theorem KI (l:List Int) (n:Int):setOf (setOf l++[n])=setOf (l++[n]):=RB (RA _) fun x=>by simp [vo]
theorem Vy (l:List Int) (n:Int):kJ (setOf l) n=setOf (l++[n]):=by rw [setOf,setOf,List.foldl_append];rfl
theorem za (l:List Int) (n:Int) (hl:l.length < lim):Con 166 [.d (ints l),.d (i64 n)] (.d (ints (setOf (l++[n])))):=by
 refine con Tryz.func166 rfl rfl Tryz.call166 rfl fun hwf=>?_
 have h1:=jf l
 rw [← Vy]
 (repeat' ((conv=>whnf);first|refine gA ?_|(refine gB ?_ ?_<;>intro h)|refine gC (oz l) ?_|refine gC (Ho (setOf l) n (by omega)) ?_|intro _))<;>try (conv=>whnf)
 exact⟨rfl,rfl,trivial⟩
theorem Vz {p:Proj} {k:Nat} {a:aH} (h:p.acts[k]? =some a):bf p k=a:=by simp [bf,List.getD_eq_getElem?_getD,h]
theorem Xl {p:Proj} (ho:aF p=true) {k:Nat} {a:aH} (h:p.acts[k]? =some a) {m:Mode} (hm:m∈a.modes):m.use.length=p.bB.length:=by
 have:=(jV ((eD ho).act k a h) hm).2.2.1
 omega
theorem VA {p:Proj} (ho:aF p=true) {k:Nat} {a:aH} (h:p.acts[k]? =some a):a.modes.length≤3:=by
 have:=(eD ho).act k a h
 simp only [bG,Bool.and_eq_true,within_iff] at this
 omega
open Go.Proofs
def tK (p:Proj) (r:Int) (i:Int):Bool:=(bf p i.toNat).modes.any fun m=>decide (m.use.getD r.toNat 0 > 0)
def users (p:Proj) (r:Int):List Int:=if aF p=true∧dV p r=true then (upTo p.acts.length).filter (tK p r) else []
theorem RD (f:Int→Bool) (k:Nat):(upTo (k+1)).filter f=(upTo k).filter f++if f k=true then [(k:Int)] else []:=by
 rw [upTo,upTo,List.range_succ,List.map_append,List.filter_append]
 congr 1
 simp only [List.map_cons,List.map_nil,List.filter_cons,List.filter_nil]
 rfl
theorem xw (f:Int→Bool) (k:Nat):((upTo k).filter f).length≤k:=Nat.le_trans (List.length_filter_le _ _) (Nat.le_of_eq (Ef k))
def uE (b:Bool) (k:Int):List Int:=if b=true then [k] else []
theorem Yr (k:Nat) (f:Int→Bool):((upTo k).filter f).Pairwise (· < ·):=by
 refine List.Pairwise.filter _ ?_
 rw [upTo,List.pairwise_map]
 exact List.pairwise_lt_range.imp (fun h=>Int.ofNat_lt.2 h)
theorem Xm {k:Nat} {f:Int→Bool} {b:Bool}:setOf ((upTo k).filter f++uE b k++[(k:Int)])=(upTo k).filter f++uE true k:=by
 have h1:=Yr k f
 refine RB (List.pairwise_append.2 ⟨h1,by simp [uE],fun x hx y hy=>?_⟩) fun x=>?_
 ·simp only [uE,if_true,List.mem_singleton] at hy
  subst hy
  have:=(List.mem_filter.1 hx).1
  simp only [upTo,List.mem_map,List.mem_range] at this
  obtain⟨j,hj,rfl⟩:=this
  exact Int.ofNat_lt.2 hj
 ·cases b<;>simp [uE,or_assoc]
theorem Xn {α:Type} {f:α→Bool} {l:List α} {j:Nat} {x:α} (h:l[j]? =some x):(l.take (j+1)).any f=((l.take j).any f||f x):=by
 obtain⟨hj,rfl⟩:=List.getElem?_eq_some_iff.1 h
 rw [List.take_succ_eq_append_getElem hj,List.any_append];simp
theorem KJ (p:Proj) (r:Int) (hp:p.fine):Con 170 [.d p.av,.d (i64 r)] (.d (ints (users p r))):=by
 refine con Tryz.func170 rfl rfl Tryz.call170 rfl fun hwf=>?_
 simp only [ARs.wf,AR.wf,AV.wf,AV.wfs,lm,lim] at hwf
 cases ho:aF p with
 |false=>
  (repeat' ((conv=>whnf);first|refine gA ?_|(refine gN ?_ ?_<;>intro h hw)|(refine gB ?_ ?_<;>intro h)|(refine gI ?_;intro x hx)|(refine gJ ?_;intro j x hj hx)|refine gV ?_|refine gC (dI p hp) ?_|intro _))<;>try (conv=>whnf)
  all_goals (refine⟨?_,rfl,trivial⟩;rw [users,if_neg (by simp [ho])];rfl)
 |true=>
 cases hr:dV p r with
 |false=>
  have hr':within r 0 (((p.bB.map fE.av).length:Int) - 1)=false:=by rw [List.length_map];exact hr
  (repeat' ((conv=>whnf);first|refine gA ?_|(refine gN ?_ ?_<;>intro h hw)|(refine gB ?_ ?_<;>intro h)|(refine gI ?_;intro x hx)|(refine gJ ?_;intro j x hj hx)|refine gV ?_|refine gC (dI p hp) ?_|refine gC (dh r 0 (((p.bB.map fE.av).length:Int) - 1)) ?_|intro _))<;>try (conv=>whnf)
  all_goals (refine⟨?_,rfl,trivial⟩;rw [users,if_neg (by simp [hr])];rfl)
 |true=>
  rw [users,if_pos ⟨ho,hr⟩]
  have hna:=(eD ho).LG
  have hr':within r 0 (((p.bB.map fE.av).length:Int) - 1)=true:=by rw [List.length_map];exact hr
  obtain⟨ρ,re,e1,e2,e3⟩:=uX hr
  have hρ:=(List.getElem?_eq_some_iff.1 e2).1
  (repeat' ((conv=>whnf);first|refine gA ?_|(refine gN ?_ ?_<;>intro h hw)|(refine gB ?_ ?_<;>intro h)|(refine gI ?_;intro x hx)|(refine gJ ?_;intro j x hj hx)|refine gV ?_|refine gC (dI p hp) ?_|refine gC (dh r 0 (((p.bB.map fE.av).length:Int) - 1)) ?_|intro _))<;>try (conv=>whnf)
  refine aB [1,24,25] [] [] ?_
  (conv=>whnf)
  refine aA.go ((Nat)) (fun k=>(k≤p.acts.length)) (fun k=>[(26,.data (i64 k)),(5,.data (ints ((upTo k).filter (tK p r))))]) (fun _=>[]) (fun _=>[]) (fun k=>p.acts.length - k) (0) ?_ ?_
  ·exact Nat.zero_le _
  rintro k hk
  have hfl:=xw (tK p r) k
  by_cases hlt:k < p.acts.length
  rotate_left
  ·(repeat' ((conv=>whnf);first|(exfalso;omega)|refine gA ?_|(refine gN ?_ ?_<;>intro h hw)|(refine gB ?_ ?_<;>intro h)|(refine gI ?_;intro x hx)|(refine gJ ?_;intro j x hj hx)|refine gV ?_|intro _))<;>try (conv=>whnf)
   refine⟨?_,rfl,trivial⟩
   rw [show p.acts.length=k by omega]
  obtain⟨a,ha⟩:∃a,p.acts[k]? =some a:=⟨p.acts[k]'hlt,by simp⟩
  have hu:tK p r k=a.modes.any fun m=>decide (m.use.getD r.toNat 0 > 0):=by rw [tK,Int.toNat_natCast,Vz ha]
  (repeat' ((conv=>whnf);first|with_reducible refine Idx.got ha rfl ?_|refine gA ?_|(refine gN ?_ ?_<;>intro h hw)|(refine gB ?_ ?_<;>intro h)|(refine gI ?_;intro x hx)|(refine gJ ?_;intro j x hj hx)|refine gV ?_|intro _))<;>try (conv=>whnf)
  rotate_left
  ·exact trivial
  have hm3:=VA ho ha
  refine aB [1,6,24,25,26,32,33] [] [] ?_
  (conv=>whnf)
  refine aA.mk ((Nat)) (fun j=>(j≤a.modes.length)) (fun j=>[(34,.data (i64 j)),(5,.data (ints ((upTo k).filter (tK p r)++uE ((a.modes.take j).any fun m=>decide (m.use.getD r.toNat 0 > 0)) k)))]) (fun _=>[]) (fun _=>[]) (fun j=>a.modes.length - j) (0) ?_ ?_ ?_
  rotate_left
  ·(repeat' ((conv=>whnf)<;>(first|exact trivial|exact rfl|with_reducible refine And.intro ?_ ?_)))<;>((conv=>whnf)<;>(simp [uE]))
  rotate_left
  ·exact Nat.zero_le _
  rintro j hj
  by_cases hjl:j < a.modes.length
  ·obtain⟨m,hm⟩:∃m,a.modes[j]? =some m:=⟨a.modes[j]'hjl,by simp⟩
   have hml:=Xl ho ha (List.mem_of_getElem? hm)
   obtain⟨n,hn⟩:∃n,m.use[ρ]? =some n:=⟨m.use[ρ]'(by omega),by simp⟩
   have e2':m.use.getD r.toNat 0=n:=by rw [e1,Int.toNat_natCast,List.getD_eq_getElem?_getD,hn];rfl
   have hat:=Xn (f:=fun m:Mode=>decide (m.use.getD r.toNat 0 > 0)) hm
   simp only [e2'] at hat
   have hs1:((upTo k).filter (tK p r)++uE ((a.modes.take j).any fun m=>decide (m.use.getD r.toNat 0 > 0)) k).length < lim:=by
    rw [List.length_append]
    have:∀b,(uE b k).length≤1:=fun b=>by cases b<;>simp [uE]
    have:=this ((a.modes.take j).any fun m=>decide (m.use.getD r.toNat 0 > 0))
    unfold lim;omega
   (repeat' ((conv=>whnf);first|with_reducible refine Idx.got hm rfl ?_|with_reducible refine Idx.got hn e1 ?_|refine gA ?_|(refine gN ?_ ?_<;>intro h hw)|(refine gB ?_ ?_<;>intro h)|(refine gI ?_;intro x hx)|(refine gJ ?_;intro j x hj hx)|refine gV ?_|refine gC (za _ (k:Int) hs1) ?_|intro _))<;>try (conv=>whnf)
   ·refine nw (j+1) ?_ ?_
    ·(repeat' ((conv=>whnf)<;>(first|exact trivial|exact rfl|with_reducible refine And.intro ?_ ?_)))<;>((conv=>whnf)<;>((rw [hat,decide_eq_true (by assumption),Bool.or_true,Xm])))
    exact (by omega:j+1≤a.modes.length)
   ·refine nw (j+1) ?_ ?_
    ·(repeat' ((conv=>whnf)<;>(first|exact trivial|exact rfl|with_reducible refine And.intro ?_ ?_)))<;>((conv=>whnf)<;>((rw [hat,decide_eq_false (by assumption),Bool.or_false])))
    exact (by omega:j+1≤a.modes.length)
   ·exfalso;omega
  ·(repeat' ((conv=>whnf);first|(exfalso;omega)|refine gA ?_|(refine gN ?_ ?_<;>intro h hw)|(refine gB ?_ ?_<;>intro h)|(refine gI ?_;intro x hx)|(refine gJ ?_;intro j x hj hx)|refine gV ?_|intro _))<;>try (conv=>whnf)
   refine nw (k+1) ?_ ?_
   ·(repeat' ((conv=>whnf)<;>(first|exact trivial|exact rfl|with_reducible refine And.intro ?_ ?_)))<;>((conv=>whnf)<;>((rw [RD,hu,List.take_of_length_le (by omega)];rfl)))
   exact (by omega:k+1≤p.acts.length)
def jv (p:Proj) (r:Rul):List Int:=
 if fG p r=true then
  if r.kind=1 then setOf [(iy p r.a).src,(iy p r.a).dst]
  else if r.kind=2 then [r.a] else if r.kind=5 then [r.b,r.c] else if r.kind=6 then aK p.acts.length else users p r.a
 else []
theorem Ai (p:Proj) (r:Rul) (hp:p.fine):Con 99 [.d p.av,.d r.av] (.d (ints (jv p r))):=by
 refine con Tryz.func99 rfl rfl Tryz.call99 rfl fun hwf=>?_
 cases ho:fG p r with
 |false=>
  (repeat' ((conv=>whnf);first|refine gA ?_|(refine gB ?_ ?_<;>intro h)|(refine gI ?_;intro x hx)|(refine gJ ?_;intro j x hj hx)|refine gC (jq p r hp) ?_|intro _))<;>try (conv=>whnf)
  refine⟨?_,rfl,trivial⟩;rw [jv,if_neg (by rw [ho];exact Bool.false_ne_true)];rfl
 |true=>
  rw [jv,if_pos ho]
  cases EI ho with
  |link hk k l e1 hl=>
   have e:iy p r.a=l:=by simp [iy,e1,List.getD_eq_getElem?_getD,hl]
   (repeat' ((conv=>whnf);first|with_reducible refine Br.yes (decide_eq_true (by omega)) ?_|with_reducible refine Br.no (decide_eq_false (by omega)) ?_|with_reducible refine Idx.got hl e1 ?_|refine gA ?_|(refine gB ?_ ?_<;>intro h)|(refine gI ?_;intro x hx)|(refine gJ ?_;intro j x hj hx)|refine gC (jq p r hp) ?_|refine gC (oz [l.src,l.dst]) ?_|intro _))<;>try (conv=>whnf)
   all_goals (refine⟨?_,rfl,trivial⟩;rw [if_pos hk,e])
  |fin hk ha=>
   (repeat' ((conv=>whnf);first|with_reducible refine Br.yes (decide_eq_true (by omega)) ?_|with_reducible refine Br.no (decide_eq_false (by omega)) ?_|refine gA ?_|(refine gB ?_ ?_<;>intro h)|(refine gI ?_;intro x hx)|(refine gJ ?_;intro j x hj hx)|refine gC (jq p r hp) ?_|intro _))<;>try (conv=>whnf)
   all_goals (refine⟨?_,rfl,trivial⟩;simp [hk])
  |time hk ha hb=>
   (repeat' ((conv=>whnf);first|with_reducible refine Br.yes (decide_eq_true (by omega)) ?_|with_reducible refine Br.no (decide_eq_false (by omega)) ?_|refine gA ?_|(refine gB ?_ ?_<;>intro h)|(refine gI ?_;intro x hx)|(refine gJ ?_;intro j x hj hx)|refine gC (jq p r hp) ?_|refine gC (KJ p r.a hp) ?_|intro _))<;>try (conv=>whnf)
   all_goals (refine⟨?_,rfl,trivial⟩;simp [hk])
  |work hk ha hb hc hlt=>
   (repeat' ((conv=>whnf);first|with_reducible refine Br.yes (decide_eq_true (by omega)) ?_|with_reducible refine Br.no (decide_eq_false (by omega)) ?_|refine gA ?_|(refine gB ?_ ?_<;>intro h)|(refine gI ?_;intro x hx)|(refine gJ ?_;intro j x hj hx)|refine gC (jq p r hp) ?_|refine gC (KJ p r.a hp) ?_|intro _))<;>try (conv=>whnf)
   all_goals (refine⟨?_,rfl,trivial⟩;simp [hk])
  |pair hk ha hb hc hlt=>
   (repeat' ((conv=>whnf);first|with_reducible refine Br.yes (decide_eq_true (by omega)) ?_|with_reducible refine Br.no (decide_eq_false (by omega)) ?_|refine gA ?_|(refine gB ?_ ?_<;>intro h)|(refine gI ?_;intro x hx)|(refine gJ ?_;intro j x hj hx)|refine gC (jq p r hp) ?_|intro _))<;>try (conv=>whnf)
   all_goals (refine⟨?_,rfl,trivial⟩;simp [hk])
  |EA hk ha=>
   (repeat' ((conv=>whnf);first|with_reducible refine Br.yes (decide_eq_true (by omega)) ?_|with_reducible refine Br.no (decide_eq_false (by omega)) ?_|refine gA ?_|(refine gB ?_ ?_<;>intro h)|(refine gI ?_;intro x hx)|(refine gJ ?_;intro j x hj hx)|refine gC (jq p r hp) ?_|refine gC (AJ _) ?_|intro _))<;>try (conv=>whnf)
   all_goals (refine⟨?_,rfl,trivial⟩;simp [hk])
end Go.Proofs.YtefgamefajmdkaaGreat.Abs
