/- Contracts: what fits into a plan, modes to choose, who is ready. -/
import Derived.Test.YtpfgedlimdeffaaGreatC41
set_option linter.all false
set_option maxRecDepth 20000
set_option maxHeartbeats 0
namespace Go.Proofs.YtpfgedlimdeffaaGreat.Abs
open Go.Proofs Go.RowKit
structure FJ (p:Proj) (x:Pln) (k:Nat) (m t:Int) (y:au) (q:Nat) (mo:Mode):Prop where
 ok:oI p x=true
 act:p.acts[k]? =some y
 mq:m=q
 moE:y.modes[q]? =some mo
 tb:0≤t∧t≤60
theorem uq {p:Proj} {x:Pln} {k:Nat} {y:au} {m t:Int} (hy:p.acts[k]? =some y):bf p x k m t=(oI p x&&(!x.done.contains (k:Int)&&(within m 0 (y.modes.length - 1)&&(bM t&&(decide (t+(y.modes.getD m.toNat ⟨0,[],[]⟩).dur≤p.dead)&&iV p (bC x k m t) k))))):=by
 have hk:=(List.getElem?_eq_some_iff.1 hy).1
 have hA:bH p k=true:=qC hk
 simp only [bf,hA,Wj,Int.toNat_natCast,Bh hy,Bool.true_and]
theorem zY {p:Proj} {x:Pln} {a m t:Int} (h:bf p x a m t=true):∃(k:Nat) (y:au) (q:Nat) (mo:Mode),a=k∧FJ p x k m t y q mo:=by
 have h0:=h
 simp only [bf,Bool.and_eq_true] at h0
 obtain⟨k,y,rfl,hy⟩:=iI h0.2.1
 rw [uq hy] at h
 simp only [Bool.and_eq_true,bM,within_iff] at h
 obtain⟨h1,_,h3,h4,_⟩:=h
 exact⟨k,y,m.toNat,y.modes[m.toNat]'(by omega),rfl,h1,hy,by omega,by simp,h4⟩
theorem zZ {p:Proj} {x:Pln} {k:Nat} {m t:Int} {y:au} {q:Nat} {mo:Mode} (g:FJ p x k m t y q mo):k < x.sched.starts.length∧k < x.sched.modes.length∧x.done.length < lim:=by
 obtain⟨h1,_,_,h4⟩:=jO g.ok
 have hs:=aJ h1
 have hna:=(fE hs.1).Tx
 have:=(List.getElem?_eq_some_iff.1 g.act).1
 unfold lim
 omega
theorem GX (p:Proj) (x:Pln) (a m t:Int) (hp:p.fine):Con 79 [.d p.av,.d x.av,.d (i64 a),.d (i64 m),.d (i64 t)] (.d (.bool (bf p x a m t))):=by
 refine con Tryz.func79 rfl rfl Tryz.call79 rfl fun hwf=>?_
 have hP:=Nv p x hp
 cases h1:oI p x with
 |false=>
  rw [h1] at hP
  have e:bf p x a m t=false:=by rw [bf,h1];rfl
  rw [e]
  (repeat' ((conv=>whnf);first|refine gA ?_|(refine gN ?_ ?_<;>intro h hw)|(refine gB ?_ ?_<;>intro h)|(refine gI ?_;intro x hx)|(refine gJ ?_;intro j x hj hx)|refine gV ?_|refine gC (hP) ?_|intro _))<;>try (conv=>whnf)
  exact⟨rfl,rfl,trivial⟩
 |true=>
 rw [h1] at hP
 obtain⟨hf,hso,hd,hl⟩:=jO h1
 have hok:=(aJ hf).1
 have hH:=kg p a
 cases h2:bH p a with
 |false=>
  rw [h2] at hH
  have e:bf p x a m t=false:=by rw [bf,h1,h2];rfl
  rw [e]
  (repeat' ((conv=>whnf);first|refine gA ?_|(refine gN ?_ ?_<;>intro h hw)|(refine gB ?_ ?_<;>intro h)|(refine gI ?_;intro x hx)|(refine gJ ?_;intro j x hj hx)|refine gV ?_|refine gC (hP) ?_|refine gC (hH) ?_|intro _))<;>try (conv=>whnf)
  exact⟨rfl,rfl,trivial⟩
 |true=>
 rw [h2] at hH
 obtain⟨k,y,rfl,hy⟩:=iI h2
 have e:=uq (x:=x) (m:=m) (t:=t) hy
 rw [h1,Bool.true_and] at e
 have hS:=iZ x.done k
 cases h3:x.done.contains (k:Int) with
 |true=>
  rw [h3] at hS e
  rw [e]
  (repeat' ((conv=>whnf);first|refine gA ?_|(refine gN ?_ ?_<;>intro h hw)|(refine gB ?_ ?_<;>intro h)|(refine gI ?_;intro x hx)|(refine gJ ?_;intro j x hj hx)|refine gV ?_|refine gC (hP) ?_|refine gC (hH) ?_|refine gC (hS) ?_|intro _))<;>try (conv=>whnf)
  exact⟨rfl,rfl,trivial⟩
 |false=>
 rw [h3] at hS e
 have hmf:=IX hok hy
 have hW:=bq m 0 (((y.modes.map Mode.av).length:Int) - 1)
 rw [show within m 0 (((y.modes.map Mode.av).length:Int) - 1)=within m 0 (y.modes.length - 1) by rw [List.length_map]] at hW
 cases h4:within m 0 (y.modes.length - 1) with
 |false=>
  rw [h4] at hW e
  rw [e]
  (repeat' ((conv=>whnf);first|with_reducible refine Idx.got hy rfl ?_|refine gA ?_|(refine gN ?_ ?_<;>intro h hw)|(refine gB ?_ ?_<;>intro h)|(refine gI ?_;intro x hx)|(refine gJ ?_;intro j x hj hx)|refine gV ?_|refine gC (hP) ?_|refine gC (hH) ?_|refine gC (hS) ?_|refine gC (hW) ?_|intro _))<;>try (conv=>whnf)
  exact⟨rfl,rfl,trivial⟩
 |true=>
 rw [h4] at hW e
 have hT:=kZ t
 cases h5:bM t with
 |false=>
  rw [h5] at hT e
  rw [e]
  (repeat' ((conv=>whnf);first|with_reducible refine Idx.got hy rfl ?_|refine gA ?_|(refine gN ?_ ?_<;>intro h hw)|(refine gB ?_ ?_<;>intro h)|(refine gI ?_;intro x hx)|(refine gJ ?_;intro j x hj hx)|refine gV ?_|refine gC (hP) ?_|refine gC (hH) ?_|refine gC (hS) ?_|refine gC (hW) ?_|refine gC (hT) ?_|intro _))<;>try (conv=>whnf)
  exact⟨rfl,rfl,trivial⟩
 |true=>
 rw [h5] at hT e
 have hwi:=within_iff.1 h4
 have hti:=within_iff.1 h5
 obtain⟨q,mo,rfl,hmo⟩:∃(q:Nat) (mo:Mode),m=q∧y.modes[q]? =some mo:=⟨m.toNat,y.modes[m.toNat]'(by omega),by omega,by simp⟩
 have hdu:=(qp ((fE hok).act k y hy) (List.mem_of_getElem? hmo)).1
 rw [show (y.modes.getD (q:Int).toNat ⟨0,[],[]⟩).dur=mo.dur by simp [List.getD_eq_getElem?_getD,hmo]] at e
 by_cases h6:t+mo.dur≤p.dead
 ·rw [decide_eq_true h6] at e
  rw [show bf p x k q t=iV p (bC x k q t) k by rw [e];rfl]
  have hkl:=(List.getElem?_eq_some_iff.1 hy).1
  have hfl:=zZ ⟨h1,hy,rfl,hmo,hti⟩
  have hpd:=Nu hd hkl (m:=q) (t:=t)
  (repeat' ((conv=>whnf);first|with_reducible refine Idx.got hy rfl ?_|with_reducible refine Idx.got hmo rfl ?_|refine gA ?_|(refine gN ?_ ?_<;>intro h hw)|(refine gB ?_ ?_<;>intro h)|(refine gI ?_;intro x hx)|(refine gJ ?_;intro j x hj hx)|refine gV ?_|refine gC (hP) ?_|refine gC (hH) ?_|refine gC (hS) ?_|refine gC (hW) ?_|refine gC (hT) ?_|refine gC (Bj x k q t hfl.1 hfl.2.1 hfl.2.2) ?_|refine gC (Pn p (bC x k q t) k hp (xE hf hy h4 h5) hkl hpd.1 hpd.2) ?_|intro _))<;>try (conv=>whnf)
  all_goals first
   |(exfalso;omega)
   |exact⟨rfl,rfl,trivial⟩
 ·rw [decide_eq_false h6] at e
  rw [e]
  (repeat' ((conv=>whnf);first|with_reducible refine Idx.got hy rfl ?_|with_reducible refine Idx.got hmo rfl ?_|refine gA ?_|(refine gN ?_ ?_<;>intro h hw)|(refine gB ?_ ?_<;>intro h)|(refine gI ?_;intro x hx)|(refine gJ ?_;intro j x hj hx)|refine gV ?_|refine gC (hP) ?_|refine gC (hH) ?_|refine gC (hS) ?_|refine gC (hW) ?_|refine gC (hT) ?_|intro _))<;>try (conv=>whnf)
  all_goals first
   |(exfalso;omega)
   |exact⟨rfl,rfl,trivial⟩
def earliest (p:Proj) (x:Pln) (a m:Int):Nat→Int→Option Int
 |0,_=>none
 |n+1,t=>if bf p x a m t=true then some t else earliest p x a m n (t+1)
theorem GY (p:Proj) (x:Pln) (a m t:Int):earliest p x a m 0 t=none:=rfl
theorem nL (p:Proj) (x:Pln) (a m t:Int) (n:Nat):earliest p x a m (n+1) t=if bf p x a m t=true then some t else earliest p x a m n (t+1):=rfl
def bA (p:Proj) (x:Pln) (a m fr:Int):Option Int:=earliest p x a m (61 - max fr 0).toNat (max fr 0)
theorem kQ {p:Proj} {x:Pln} {a m:Int}:∀{n:Nat} {t u:Int},earliest p x a m n t=some u→bf p x a m u=true
 |0,_,_,h=>by cases h
 |n+1,t,u,h=>by
  rw [nL] at h
  split at h
  ·cases h;assumption
  ·exact kQ h
theorem ru (p:Proj) (x:Pln) (a m fr:Int) (hp:p.fine):Con 39 [.d p.av,.d x.av,.d (i64 a),.d (i64 m),.d (i64 fr)] (GL (bA p x a m fr)):=by
 refine con Tryz.func39 rfl rfl Tryz.call39 rfl fun hwf=>?_
 generalize hR:bA p x a m fr=R
 (repeat' ((conv=>whnf);first|refine gA ?_|(refine gB ?_ ?_<;>intro h)|refine gV ?_|intro _))<;>try (conv=>whnf)
 refine aG [2,3,5,6] [5,6] [] ?_
 (conv=>whnf)
 refine aC.go ((Int)) (fun t=>(0≤t)∧(earliest p x a m (61 - t).toNat t=R)) (fun t=>[(12,.data (i64 t))]) (fun _=>[]) (fun _=>[]) (fun t=>(61 - t).toNat) (max fr 0) ?_ ?_
 ·exact⟨by omega,hR⟩
 rintro t ⟨h0,he⟩
 by_cases hlt:t≤60
 ·rw [show (61 - t).toNat=(61 - (t+1)).toNat+1 by omega,nL] at he
  have hF:=GX p x a m t hp
  cases hf:bf p x a m t with
  |true=>
   rw [if_pos hf] at he
   subst he
   rw [hf] at hF
   (repeat' ((conv=>whnf);first|with_reducible refine Br.yes (decide_eq_true (by omega)) ?_|refine gA ?_|(refine gB ?_ ?_<;>intro h)|refine gV ?_|refine gC (hF) ?_|intro _))<;>try (conv=>whnf)
   exact fv
  |false=>
   rw [if_neg (by simp [hf])] at he
   rw [hf] at hF
   (repeat' ((conv=>whnf);first|with_reducible refine Br.yes (decide_eq_true (by omega)) ?_|refine gA ?_|(refine gB ?_ ?_<;>intro h)|refine gV ?_|refine gC (hF) ?_|intro _))<;>try (conv=>whnf)
   refine nx (t+1) ?_
   exact⟨by omega,he⟩
 ·rw [show (61 - t).toNat=0 by omega,GY] at he
  subst he
  (repeat' ((conv=>whnf);first|with_reducible refine Br.no (decide_eq_false (by omega)) ?_|refine gA ?_|(refine gB ?_ ?_<;>intro h)|refine gV ?_|intro _))<;>try (conv=>whnf)
  exact fv
def TY (n:Int):Int:=min (max n (-100000)) 100000
def Nw (l:List Int):Int:=cu TY l 0
def Vx (low:Bool) (m:Mode):Int:=if low=true then Nw m.use+Nw m.con else m.dur
def FK (f:Mode→Int):List Mode→Nat→Nat→Int→Nat
 |[],_,b,_=>b
 |m::l,i,b,v=>if i=0∨f m < v then FK f l (i+1) i (f m) else FK f l (i+1) b v
def uw (p:Proj) (a:Int) (low:Bool):Nat:=if aY p=true∧bH p a=true then FK (Vx low) (jG p a.toNat).modes 0 0 0 else 0
def Vy (p:Proj) (y:Link):Int:=if y.DT=true then y.lag+Tk (jG p y.src.toNat) (dX (jG p y.src.toNat).modes.length) else y.lag
def notReady (p:Proj) (a:Int) (done:List Int) (y:Link):Bool:=decide (y.dst=a)&&(decide (Vy p y > 0)&& !done.contains y.src)
def ready (p:Proj) (a:Int) (done:List Int):Bool:= !p.links.any (notReady p a done)
end Go.Proofs.YtpfgedlimdeffaaGreat.Abs
