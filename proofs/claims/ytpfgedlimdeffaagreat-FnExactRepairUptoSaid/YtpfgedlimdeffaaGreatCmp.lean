/- slices.Compact over numbers. -/
import Derived.WalkKit
import Derived.Deep.LoopGhost
import Derived.Lib.Hide
import Derived.Sort.WalkB12
import Derived.Lib.SliceRun
import Derived.Deep.Draws
import Derived.Lib.Walk
import Derived.Shelf.RegionOpenPlain
import Derived.Test.YtpfgedlimdeffaaGreatWo
import Derived.Test.YtpfgedlimdeffaaGreatPlain
set_option linter.all false
set_option maxRecDepth 1000000
set_option maxHeartbeats 4000000
namespace Go.Proofs.YtpfgedlimdeffaaGreat.Abs
open Go.Proofs Go.RowKit Go.Sort
theorem DW.drew {E sz:Nat} {w W:World} {b cap:Nat} {F:List Int} (h:DW E sz w W b cap F):DW E sz w W.drew b cap F:=⟨h.os,h.tape,h.output,h.size,Nat.le_trans h.drawn (Nat.le_succ _),h.lt,h.other,h.row⟩
def Vv (E:Nat) (w:World) (b cap:Nat) (r:List Int) (e:Ending) (w':World):Prop:=e= .returned (.slice (some ⟨b,0,none⟩) r.length cap)∧DW E 1 w w' b cap r
theorem intZero (w:World):(zeroValue 3).run Tryz.prog w= .ok (.int .i64 0) w:=by kernel_rfl
theorem Yx:Tryz.prog.underlying 25=some (.slice 3):=by kernel_rfl
theorem Nr {l:List Int} {b cap:Nat} {w:World} (hD:DW 3 1 w w b cap l) (hcap:l.length≤cap) (hl:l.length≤274877906944):
  Calls Tryz.prog 173 #[.slice (some ⟨b,0,none⟩) l.length cap] w (Vv 3 w b cap (fD l)):=by
 by_cases h2:l.length < 2
 ·have e:=EY h2
  rw [e]
  have HD:=Lib.hid hD
  clear hD e
  go_enter Tryz.func173,Tryz.ntmps173
  go_wp2_with fail
  go_ret
  exact⟨rfl,HD.out⟩
 ·have HD:=Lib.hid hD
  clear hD
  go_enter Tryz.func173,Tryz.ntmps173
  go_wp2_with fail
  go_loopg [3,4,5] l.length (fun gg s3 s4 s5 wr=>∃(k:Nat),s3= .int .i64 (k+1)∧k+1≤l.length∧l.length - k≤gg∧Aside (DW 3 1 w wr b cap l∧fD (l.take (k+1))=l.take (k+1)))
  case atStart=>exact⟨0,rfl,by omega,by omega,HD.out,by
   obtain⟨x,hx⟩:∃x,l[0]? =some x:=⟨l[0]'(by omega),by simp⟩
   rw [nH hx];cases l with
   |nil=>simp at hx
   |cons y l=>simp at hx;subst hx;rfl⟩
  case round=>
   obtain⟨k,rfl,hkl,hgg,hq⟩:=hrel
   by_cases hlt:k+1 < l.length
   ·obtain⟨x,hx⟩:∃x,l[k]? =some x:=⟨l[k]'(by omega),by simp⟩
    obtain⟨y,hy⟩:∃y,l[k+1]? =some y:=⟨l[k+1]'(by omega),by simp⟩
    have c1:wr.cell? ⟨b,k,none⟩=some (.int .i64 x):=hq.out.1.cell hx
    have c2:wr.cell? ⟨b,k+1,none⟩=some (.int .i64 y):=hq.out.1.cell hy
    have HX:=Lib.hid hx
    have HY:=Lib.hid hy
    clear hx hy
    have hmx:Tryz.prog.follows .mixedOrders=true:=mixed
    have n1:(0:Int)≤(k:Int)+1:=by omega
    by_cases hxy:y=x
    ·subst hxy
     have CS:=Lib.hid (uM.start hq.out.2 HX.out HY.out)
     have D0:=Lib.hid hq.out.1.drew
     clear hq HX HY
     go_wp2_with fail
     go_region_o
     go_wp2_with fail
     clear c1 c2
     go_loopg [3,5] l.length (fun gg s3 s5 wr2=>∃(K j:Nat) (dk:List Int),s3= .int .i64 K∧s5= .int .i64 (j+1)∧k+j+2≤l.length∧l.length - (k+j+2)≤gg∧Aside (uM l K (k+j+2) dk∧DW 3 1 w wr2 b cap dk))
     case atStart=>exact⟨k+1,0,l,by go_num,rfl,by omega,by omega,CS.out,D0.out⟩
     case round=>
      obtain⟨K,j,dk,rfl,rfl,hkj,hg2,hq2⟩:=hrel
      have hKm:=hq2.out.1.km
      by_cases hlt2:k+j+2 < l.length
      ·obtain⟨x,hx⟩:∃x,l[k+j+1]? =some x:=⟨l[k+j+1]'(by omega),by simp⟩
       obtain⟨z,hz⟩:∃z,l[k+j+2]? =some z:=⟨l[k+j+2]'(by omega),by simp⟩
       have cx:=hq2.out.2.cell (hq2.out.1.at (by omega) hx)
       have cz:=hq2.out.2.cell (hq2.out.1.at (by omega) hz)
       have n2:(0:Int)≤(j:Int)+1:=by omega
       rw [show k+j+1=k+1+j by omega] at cx
       rw [show k+j+2=k+1+(j+1) by omega] at cz
       by_cases hzx:z=x
       ·subst hzx
        have CS2:=Lib.hid (hq2.out.1.same (by rw [show k+j+2 - 1=k+j+1 by omega];exact hx) hz)
        have D2:=Lib.hid hq2.out.2.drew
        clear hq2 hx hz
        go_wp2_with fail
        go_region_o
        go_wp2_with fail
        go_roundg (l.length - (k+j+1+2))
        case measure=>omega
        case rel=>exact⟨K,j+1,dk,rfl,by go_num,by omega,by omega,CS2.out,D2.out⟩
       ·have hne:(z == x)=false:=beq_eq_false_iff_ne.2 hzx
        have CS2:=Lib.hid (hq2.out.1.new (by rw [show k+j+2 - 1=k+j+1 by omega];exact hx) hz hzx)
        have hKl:K < dk.length:=by have:=hq2.out.1.len;omega
        obtain⟨y2,hy2⟩:∃y2,dk[K]? =some y2:=⟨dk[K],by simp [hKl]⟩
        have cK:=hq2.out.2.cell hy2
        have fK:=hq2.out.2.frozen K
        have D2:=Lib.hid (hq2.out.2.set (x:=z) hKl).drew
        clear hq2 hx hz hy2
        go_wp2_with fail
        go_region_o
        go_wp2_with fail
        go_roundg (l.length - (k+j+1+2))
        case measure=>omega
        case rel=>exact⟨K+1,j+1,dk.set K z,by go_num,by go_num,by omega,by omega,CS2.out,D2.out⟩
      ·have hK1:K < l.length:=by omega
       have hlen:=hq2.out.1.len
       have hkept:=hq2.out.1.kept
       have e0:l.take (k+j+2)=l:=List.take_of_length_le (by omega)
       rw [e0] at hkept
       have hlk:(fD l).length=K:=by rw [← hkept,List.length_take];omega
       have hcl:=(hq2.out.2.sets (vs:=List.replicate (l.length - K) (0:Int)) (j:=K) (by simp;omega)).pfx (G:=dk.take K) ⟨_,by rw [List.append_assoc]⟩
       rw [hkept,List.map_replicate] at hcl
       have HC:=Lib.hid hcl
       have HK:=Lib.hid hlk
       have HS1:=Lib.hid (show ∀i,i < (l.length - K)*1→(wr.cell? ⟨b,K+i,none⟩).isSome=true from fun i hi=>by
        rw [hq2.out.2.cell (x:=dk[K+i]'(by omega)) (by simp)];rfl)
       have HF1:=Lib.hid (show ∀i,i < (l.length - K)*1→wr.frozen? ⟨b,K+i,none⟩=false from fun i _=>hq2.out.2.frozen _)
       clear hq2 hkept hlk hcl hlen
       go_wp2_with fail
       rw [FB (k:=1) wr _ _ _ _ Yx intZero rfl b K (l.length - K) (cap - K) (by omega) HS1.out HF1.out]
       go_wp2_with fail
       go_ret
       have hcl:=HC.out
       refine⟨congrArg (fun n:Nat=>Ending.returned (.slice (some ⟨b,0,none⟩) n cap)) HK.out.symm,?_⟩
       simpa using hcl
    ·have hne:(y == x)=false:=beq_eq_false_iff_ne.2 hxy
     have CS:=Lib.hid (show fD (l.take (k+1+1))=l.take (k+1+1) by
      rw [zP (m:=k) HX.out HY.out hxy,hq.out.2]
      obtain⟨hk1,e⟩:=List.getElem?_eq_some_iff.1 HY.out
      rw [List.take_succ_eq_append_getElem hk1,e])
     have D0:=Lib.hid hq.out.1.drew
     clear hq HX HY
     go_wp2_with fail
     go_region_o
     go_wp2_with fail
     go_roundg (l.length - (k+1))
     case measure=>omega
     case rel=>exact⟨k+1,by go_num,by omega,by omega,D0.out,CS.out⟩
   ·obtain⟨e1,e2⟩:=hq.out
    rw [List.take_of_length_le (by omega)] at e2
    have HQ:=Lib.hid e1
    have HE:=Lib.hid e2
    clear hq e1 e2
    go_wp2_with fail
    go_ret
    exact⟨congrArg (fun n:Nat=>Ending.returned (.slice (some ⟨b,0,none⟩) n cap)) (congrArg List.length HE.out).symm,by rw [HE.out];exact HQ.out⟩
end Go.Proofs.YtpfgedlimdeffaaGreat.Abs
