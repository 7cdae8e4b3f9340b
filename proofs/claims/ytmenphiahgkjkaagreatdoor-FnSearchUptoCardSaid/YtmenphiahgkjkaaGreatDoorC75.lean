/- Contracts: a search in words. -/
import Derived.Test.YtmenphiahgkjkaaGreatDoorDr
import Derived.Test.YtmenphiahgkjkaaGreatDoorVis
import Derived.Test.YtmenphiahgkjkaaGreatDoorPlain
import Derived.Test.YtmenphiahgkjkaaGreatDoorSh
set_option linter.all false
set_option maxRecDepth 20000
set_option maxHeartbeats 0
namespace Go.Proofs.YtmenphiahgkjkaaGreatDoor.Abs
open Go.Proofs
theorem Nw {P:Program} {T:Nat→Ty} {L f:Nat} {k:Int} {b:ByteArray} (hcf:∀(vs:Array Value) (w:World),(callFunc f vs).run P w= .ok (.enter f vs) w)
  (h:∀w:World,Calls P f #[.int .i64 k] w fun e w'=>e= .returned (.string b)∧w'=w):Contract P T L f [.d (.int .i64 k)] (.d (.str b)):=by
 refine⟨hcf,fun I J O mt w vs hI _ hO _ _ ha=>?_⟩
 match vs,ha with
 |[v],ha=>
  have hv:v= .int .i64 k:=ha.1
  subst hv
  refine (h w).mono ?_
  rintro e w' ⟨rfl,rfl⟩
  exact⟨_,rfl,Turn.refl _ _,I,[],fun _ h=>h,fun _ h=>.inl h,List.nodup_nil,fun _ h=>by simp at h,by simp only [fF];exact⟨trivial,rfl⟩⟩
 |[],ha=>exact ha.elim
 |_::_::_,ha=>exact ha.2.elim
def yA (n:Nat):ByteArray:=⟨(Lib.decDigits n).toArray⟩
theorem Rw {n:Nat} (h:n < 100):(yA n).size≤2:=by
 have e:(yA n).size=(Lib.decDigits n).length:=by unfold yA ByteArray.size;simp
 rw [e]
 unfold Lib.decDigits
 split
 ·simp
 ·rw [Lib.decDigits.eq_1 (n / 10),dif_pos (by omega)];simp
theorem Ny (n:Nat) (hn:n < 100):Con 65 [.d (i64 n)] (.d (.str (yA n))):=
 Nw Tryz.call65 fun w=>Any.strconv_Itoa_small Tryz.lays171 n hn w
theorem MB (n:Nat) (hn:n < 100):Con 27 [.d (i64 n)] (.d (.str (yA n))):=by
 refine con Tryz.func27 rfl rfl Tryz.call27 rfl fun hwf=>?_
 have BI:=Ny n hn
 generalize yA n=b at BI ⊢
 have BW:=aS n (-100000) 100000
 rw [show within (n:Int) (-100000) 100000=true from within_iff.2 (by omega)] at BW
 (repeat' ((conv=>whnf);first|refine gA ?_|(refine gN ?_ ?_<;>intro h hw)|(refine gB ?_ ?_<;>intro h)|refine gC (BW) ?_|refine gC (BI) ?_|intro _))<;>try (conv=>whnf)
 exact fv
def MC (stopped found:Bool):ByteArray:=if stopped=true then⟨#[115,116,111,112,112,101,100]⟩ else if found=true then⟨#[102,111,117,110,100]⟩ else⟨#[110,111,110,101]⟩
theorem Ak (s f:Bool):1≤(MC s f).size∧(MC s f).size≤7:=by cases s<;>cases f<;>decide
theorem Uw:(⟨#[32]⟩:ByteArray).size=1:=rfl
theorem Zu (s f:Bool):(MC s f).size+(⟨#[32]⟩:ByteArray).size≤lim:=by have:=Ak s f;rw [Uw];unfold lim;omega
theorem Zv (s f:Bool) {b:ByteArray} (h:b.size≤2):(MC s f++⟨#[32]⟩).size+b.size≤lim:=by have:=Ak s f;rw [ByteArray.size_append,Uw];unfold lim;omega
theorem FY (F:Ri) (h:0≤F.visits∧F.visits < 100):∃b:ByteArray,1≤b.size∧Con 8 [.d F.av] (.d (.str b)):=by
 obtain⟨n,hn⟩:∃n:Nat,F.visits=n:=⟨F.visits.toNat,by omega⟩
 have BI:=MB n (by omega)
 have hz:=Rw (n:=n) (by omega)
 obtain⟨g,s,f,v,t⟩:=F
 dsimp only at hn h
 subst hn
 generalize yA n=b at BI hz
 refine⟨MC t f++⟨#[32]⟩++b,?_,?_⟩
 ·have:=Ak t f
  rw [ByteArray.size_append,ByteArray.size_append];omega
 refine con Tryz.func8 rfl rfl Tryz.call8 rfl fun hwf=>?_
 clear hwf
 have V1:=Zu t f
 have V2:=Zv t f hz
 cases t<;>cases f
 all_goals
  (repeat' ((conv=>whnf);first|refine VC.mk V1 ?_|refine VC.mk V2 ?_|refine gA ?_|(refine gB ?_ ?_<;>intro h)|refine gV ?_|refine gC (BI) ?_|intro _))<;>try (conv=>whnf)
  exact fv
end Go.Proofs.YtmenphiahgkjkaaGreatDoor.Abs
