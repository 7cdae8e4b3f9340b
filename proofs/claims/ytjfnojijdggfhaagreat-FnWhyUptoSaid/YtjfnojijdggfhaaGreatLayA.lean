/- An abstract layer over the model's code: slices as lists, structs as lists of cells; the predicate transformer 'awp'. -/
import Derived.WalkKit
set_option linter.all false
namespace Go.Proofs.YtjfnojijdggfhaaGreat.Abs
inductive AV where
 |bool (b:Bool)
 |int (k:IntKind) (n:Int)
 |str (s:ByteArray)
 |sl (l:List AV)
 |agg (l:List AV)
 |any
 deriving Inhabited
mutual
def AV.md (m:Bool):AV→Bool
 | .sl l=>AV.mds m l
 | .agg l=>AV.mds m l
 | .any=>m
 |_=> !m
def AV.mds (m:Bool):List AV→Bool
 |[]=>true
 |x::xs=>AV.md m x&&AV.mds m xs
end
mutual
def AV.wf (L:Nat):AV→Prop
 | .sl l=>l.length≤L∧AV.wfs L l
 | .agg l=>AV.wfs L l
 |_=>True
def AV.wfs (L:Nat):List AV→Prop
 |[]=>True
 |x::xs=>AV.wf L x∧AV.wfs L xs
end
mutual
def AV.flat:AV→Bool
 | .sl _=>false
 | .agg l=>AV.EG l
 |_=>true
def AV.EG:List AV→Bool
 |[]=>true
 |x::r=>AV.flat x&&AV.EG r
end
def AV.cells:AV→List AV
 | .agg l=>l
 |x=>[x]
def AV.mdc (m:Bool):AV→Bool
 | .sl l=>AV.mds m l
 | .agg l=>AV.mds m l
 |_=>true
def AV.mdv (m:Bool):AV→Bool
 | .agg l=>l.all (AV.mdc m)
 |x=>x.mdc m
inductive ZC where
 |bool|int (k:IntKind)|str|aj
 deriving Inhabited,DecidableEq
def ZC.av:ZC→AV
 | .bool=>.bool false
 | .int k=>.int k 0
 | .str=>.str ⟨#[]⟩
 | .aj=>.sl []
inductive TK where
 |bool|int (k:IntKind)|str
 |slice (E:Nat)
 |struct (fs:List (Nat×Nat))
 |fn
 |other
 deriving Inhabited,DecidableEq
structure Ty where
 kind:TK
 size:Nat
 bytes:Nat
 zero:List ZC
 eq:Bool:=false
 deriving Inhabited,DecidableEq
def Ty.good (t:Ty):Bool:=match t.kind with| .other=>false|_=>true
def Ty.agg (t:Ty):Bool:=match t.kind with| .struct _=>true|_=>false
def ZC.fit:ZC→AV→Bool
 | .aj,.sl _=>true
 | .aj,_=>false
 |_,.sl _=>false
 |_,.agg _=>false
 |_,_=>true
def bO:List ZC→List AV→Bool
 |[],[]=>true
 |z::zs,x::xs=>z.fit x&&bO zs xs
 |_,_=>false
def EH:List ZC→Bool
 |[]=>true
 | .aj::_=>false
 |_::r=>EH r
def Ty.flat (t:Ty):Bool:=EH t.zero
def ZC.beq:ZC→ZC→Bool
 | .bool,.bool=>true
 | .int _,.int _=>true
 | .str,.str=>true
 | .aj,.aj=>true
 |_,_=>false
def QU:List ZC→List ZC→Bool
 |[],[]=>true
 |a::r,b::t=>a.beq b&&QU r t
 |_,_=>false
def wE (E t:Ty) (off:Nat):Bool:=QU ((E.zero.drop off).take t.zero.length) t.zero
inductive SV where
 |undef
 |gone
 |data (a:AV)
 |aj
 |fr (l:List AV)
 |own (τ g:Nat)
 |jy (τ g k off:Nat)
 |box (d g off:Nat)
 |bsl (d g n:Nat)
 |ref (a:AV)
 |old (a:AV)
 |dI (a:AV)
 |fn (f:Nat) (caps:List SV)
 |fnr (f:Nat) (caps:List AV)
 |iF (l:List SV)
 |tup (l:List SV)
 |argv (i j:Nat) (a:AV)
 deriving Inhabited
structure Tok where
 gen:Nat
 frz:Bool
 E:Nat
 l:List AV
 lin:Bool
structure St where
 n:Nat
 get:Nat→SV
 mem:Nat→Option (Nat×List SV)
 tok:Nat→Option Tok
def St.set (s:St) (d:Nat) (v:SV):St:=
 { s with get:=fun i=>bif Nat.beq i d then (bif Nat.blt d s.n then v else .undef) else s.get i }
def St.put (s:St) (d:Option Nat) (v:SV):St:=match d with|some d=>s.set d v|none=>s
def St.dJ (s:St) (d g:Nat) (cells:List SV):St:=
 { s with mem:=fun i=>bif Nat.beq i d then some (g,cells) else s.mem i }
def St.aU (s:St) (d:Nat) (t:Tok):St:=
 { s with tok:=fun i=>bif Nat.beq i d then some t else s.tok i }
structure VC (p:Prop) (K:Prop):Prop where
 h:p
 k:K
structure Br (b:Bool) (X:Bool→Prop):Prop where
 t:b=true→X true
 f:b=false→X false
theorem Br.tt {X:Bool→Prop} (h:X true):Br true X:=⟨fun _=>h,nofun⟩
theorem Br.ff {X:Bool→Prop} (h:X false):Br false X:=⟨nofun,fun _=>h⟩
theorem Br.yes {b:Bool} {X:Bool→Prop} (hb:b=true) (h:X true):Br b X:=⟨fun _=>h,fun e=>by simp [hb] at e⟩
theorem Br.no {b:Bool} {X:Bool→Prop} (hb:b=false) (h:X false):Br b X:=⟨fun e=>by simp [hb] at e,fun _=>h⟩
structure Arith (k:IntKind) (r:Int) (K:Int→Prop):Prop where
 h:K (k.wrap r)
inductive Idx (l:List AV) (i:Int) (K:Nat→AV→Prop):Prop
 |mk (j:Nat) (x:AV) (hi:i=j) (hx:l[j]? =some x) (k:K j x)
structure XF (l:List AV) (X:Bool→Prop):Prop where
 t:l= []→X true
 f:X false
def cv:Value→SV
 | .bool b=>.data (.bool b)
 | .int k n=>.data (.int k n)
 | .string s=>.data (.str s)
 | .slice none 0 0=>.aj
 |_=>.undef
def St.ev (s:St):Operand→SV
 | .tmp t=>s.get t
 | .const v=>cv v
 | .func f=>.fn f []
 | .global _=>.undef
def qV:List SV→Option (List AV)
 |[]=>some []
 | .data a::r=>match qV r with|some l=>some (a::l)|none=>none
 |_=>none
def pV:List SV→Option (List AV)
 |[]=>some []
 | .data (.bool b)::r=>match pV r with|some l=>some (.bool b::l)|none=>none
 | .data (.int k n)::r=>match pV r with|some l=>some (.int k n::l)|none=>none
 | .data (.str b)::r=>match pV r with|some l=>some (.str b::l)|none=>none
 | .data .any::r=>match pV r with|some l=>some (.any::l)|none=>none
 | .old (.sl a)::r=>match pV r with|some l=>some (.sl a::l)|none=>none
 |_=>none
def EI (l:List SV):SV:=match qV l with|some as=>.data (.agg as)|none=>(match pV l with|some as=>.old (.agg as)|none=>.iF l)
def oZ:AV→SV
 | .sl l=>.old (.sl l)
 | .agg l=>.old (.agg l)
 |a=>.data a
def SV.cells:SV→Option (List SV)
 | .data (.agg l)=>some (l.map .data)
 | .data a=>some [.data a]
 | .aj=>some [.aj]
 | .fr l=>some [.fr l]
 | .argv i j a=>some [.argv i j a]
 | .old (.agg l)=>some (l.map oZ)
 | .old (.sl l)=>some [.old (.sl l)]
 | .own τ g=>some [.own τ g]
 | .iF l=>some l
 |_=>none
def SV.QV:SV→Bool
 | .data (.bool _)| .data (.int _ _)| .data (.str _)| .data .any=>true
 |_=>false
def SV.stands (s:St):SV→Bool
 | .own τ g| .jy τ g _ _=>match s.tok τ with|some t=>Nat.beq t.gen g|none=>false
 | .box d g _| .bsl d g _=>match s.mem d with|some (g',_)=>Nat.beq g' g|none=>false
 |_=>true
def splice (l:List SV) (off:Nat) (new:List SV):List SV:=l.take off++new++l.drop (off+new.length)
def erase (s:St):SV→(AV→St→Prop)→Prop
 | .data a,K=>K a s
 | .aj,K=>K (.sl []) s
 | .fr l,K=>K (.sl l) s
 | .argv _ _ a,K=>K a s
 | .own τ g,K=>match s.tok τ with
  |some t=>bif Nat.beq t.gen g then K (.sl t.l) (s.aU τ { t with frz:=true }) else False
  |none=>False
 |_,_=>False
def mG (s:St):List SV→(List AV→St→Prop)→Prop
 |[],K=>K [] s
 |v::r,K=>erase s v fun a s1=>mG s1 r fun as s2=>K (a::as) s2
def mZ (s:St) (v:SV) (K:AV→St→Prop):Prop:=
 match v with
 | .iF l=>mG s l fun as s1=>K (.agg as) s1
 |v=>erase s v K
def take1 (τ:Nat) (s:St):SV→(AV→Bool→St→Prop)→Prop
 | .data a,K=>K a a.flat s
 | .aj,K=>K (.sl []) true s
 | .fr l,K=>K (.sl l) false s
 | .own σ g,K=>match s.tok σ with
  |some t=>bif Nat.beq t.gen g then K (.sl t.l) (t.lin&& !Nat.beq σ τ) (s.aU σ { t with frz:=true,lin:=t.lin&&Nat.beq σ τ }) else False
  |none=>False
 |_,_=>False
def yV (τ:Nat) (s:St):List SV→(List AV→Bool→St→Prop)→Prop
 |[],K=>K [] true s
 |v::r,K=>take1 τ s v fun a q s1=>yV τ s1 r fun as q' s2=>K (a::as) (q&&q') s2
def qW (τ:Nat) (s:St) (v:SV) (K:AV→Bool→St→Prop):Prop:=
 match v with
 | .iF l=>yV τ s l fun as q s1=>K (.agg as) q s1
 |v=>take1 τ s v K
def oP (τ:Nat) (s:St):SV→Bool
 | .aj=>true
 | .own σ _=>match s.tok σ with|some t=>t.lin&& !Nat.beq σ τ|none=>false
 |_=>false
def jY (τ:Nat) (s:St):SV→St
 | .own σ _=>match s.tok σ with|some t=>s.aU σ { t with lin:=t.lin&&Nat.beq σ τ }|none=>s
 |_=>s
def St.content (s:St):SV→Option (List AV)
 | .data (.sl l)=>some l
 | .aj=>some []
 | .fr l=>some l
 | .own τ g=>match s.tok τ with|some t=>bif Nat.beq t.gen g then some t.l else none|none=>none
 |_=>none
inductive AR where
 |d (a:AV)
 |ref (a:AV)
 |old (a:AV)
 |fn (f:Nat) (caps:List AV)
 |bx (cells:List SV)
inductive RV where
 |d (a:AV)
 |own (E:Nat) (l:List AV)
 |lin (E:Nat) (l:List AV)
 |fr (l:List AV)
 |aj
 |agg (l:List RV)
 |tup (l:List RV)
 |arg (i off n:Nat)
 |junk
 |eff (i:Nat) (r:RV) (cs:List RV)
 |ptr (cs:List AV)
def jf (s:St) (v:SV) (K:AV→St→Prop):Prop:=
 match v with
 | .box d g 0=>match s.mem d with
  |some (g',cells)=>bif Nat.beq g' g then
    (match cells with
     |[c]=>erase s c K
     |cs=>mG s cs fun as s1=>K (.agg as) s1) else False
  |none=>False
 | .ref a=>K a s
 |_=>False
def iL (s:St):List SV→(List AV→St→Prop)→Prop
 |[],K=>K [] s
 |v::r,K=>jf s v fun a s1=>iL s1 r fun as s2=>K (a::as) s2
def pW (s:St):List SV→(List SV→St→Prop)→Prop
 |[],K=>K [] s
 | .aj::r,K=>pW s r fun as s1=>K (.aj::as) s1
 |v::r,K=>erase s v fun a s1=>pW s1 r fun as s2=>K (.data a::as) s2
def jg (s:St) (v:SV) (K:AR→St→Prop):Prop:=
 match v with
 | .fn f caps=>iL s caps fun as s1=>K (.fn f as) s1
 | .fnr f caps=>K (.fn f caps) s
 | .old a=>K (.old a) s
 | .box d g 0=>match s.mem d with
  |some (g',cells)=>bif Nat.beq g' g then pW s cells fun as s1=>K (.bx as) s1 else False
  |none=>False
 |v=>mZ s v fun a s1=>K (.d a) s1
def gT (s:St):List SV→(List AR→St→Prop)→Prop
 |[],K=>K [] s
 |v::r,K=>jg s v fun a s1=>gT s1 r fun as s2=>K (a::as) s2
def jh:Option Tok→Nat|some t=>t.gen+1|none=>0
def fZ:Option (Nat×List SV)→Nat|some (g,_)=>g+1|none=>0
def eY (s:St) (τ E:Nat) (l:List AV) (q:Bool):SV×St:=
 (.own τ (jh (s.tok τ)),s.aU τ ⟨jh (s.tok τ),false,E,l,q⟩)
def bP (s:St) (d:Nat) (cells:List SV):SV×St:=
 (.box d (fZ (s.mem d)) 0,s.dJ d (fZ (s.mem d)) cells)
def Gv (A:List SV) (i off n:Nat):SV:=
 match A[i]? with
 |some (.iF l)=>.iF ((l.drop off).take n)
 |some (.data (.agg l))=>.data (.agg ((l.drop off).take n))
 |_=>.undef
mutual
def RV.lay (A:List SV) (s:St) (τ:Nat):RV→SV×St
 | .d a=>(.data a,s)
 | .own E l=>eY s τ E l false
 | .lin E l=>eY s τ E l true
 | .fr l=>(.fr l,s)
 | .aj=>(.aj,s)
 | .agg l=>let (vs,s1):=RV.mH A s (τ*10+1) l;(.iF vs,s1)
 | .tup l=>let (vs,s1):=RV.mH A s (τ*10+1) l;(.tup vs,s1)
 | .arg i off n=>(Gv A i off n,s)
 | .junk=>(.undef,s)
 | .eff _ _ _=>(.undef,s)
 | .ptr _=>(.undef,s)
def RV.mH (A:List SV) (s:St) (τ:Nat):List RV→List SV×St
 |[]=>([],s)
 |r::rs=>let (v,s1):=RV.lay A s τ r;let (vs,s2):=RV.mH A s1 (τ+1) rs;(v::vs,s2)
end
section
variable (T:Nat→Ty) (C:Nat→List AR→(RV→Prop)→Prop) (L:Nat)
def AV.scalar:AV→Bool
 | .bool _| .int _ _| .str _=>true
 |_=>false
def UH:AV→AV→Option Bool
 | .bool a,.bool b=>some (a == b)
 | .int k a,.int k' b=>bif decide (k=k') then some (decide (a=b)) else none
 | .str a,.str b=>some (decide (a=b))
 |_,_=>none
def kK:List AV→List AV→Option Bool
 |[],[]=>some true
 |a::r,b::t=>match UH a b,kK r t with|some x,some y=>some (x&&y)|_,_=>none
 |_,_=>none
def kindOk:TK→AV→Bool
 | .bool,.bool _| .int _,.int _ _| .str,.str _=>true
 |_,_=>false
def sQ (i:Nat):List (Nat×Nat)→List AV→Bool
 |[],[]=>true
 |(off,t)::r,x::xs=>Nat.beq off i&&kindOk (T t).kind x&&sQ (i+1) r xs
 |_,_=>false
def DK (t:Nat) (l:List AV):Bool:=(T t).eq&&(match (T t).kind with| .struct fs=>sQ T 0 fs l|_=>false)
def UJ (op:BinOp) (k:IntKind) (x y:Int) (K:AV→Prop):Prop:=
 match op with
 | .add=>Arith k (x+y) fun r=>K (.int k r)
 | .sub=>Arith k (x - y) fun r=>K (.int k r)
 | .mul=>Arith k (x*y) fun r=>K (.int k r)
 | .quo=>VC (y≠0) (Arith k (x.tdiv y) fun r=>K (.int k r))
 | .rem=>VC (y≠0) (K (.int k (x.tmod y)))
 | .lss=>K (.bool (decide (x < y)))
 | .leq=>K (.bool (decide (x≤y)))
 | .gtr=>K (.bool (decide (x > y)))
 | .geq=>K (.bool (decide (x≥y)))
 | .eql=>K (.bool (decide (x=y)))
 | .neq=>K (.bool (!decide (x=y)))
 | .and=>K (.int k (k.wrap (BitVec.ofInt k.bits x&&& BitVec.ofInt k.bits y).toNat))
 | .xor=>K (.int k (k.wrap (BitVec.ofInt k.bits x ^^^ BitVec.ofInt k.bits y).toNat))
 | .shr=>VC (0≤y) (K (.int k (x.fdiv (2 ^ min y.toNat k.bits))))
 |_=>False
def GL (op:BinOp) (t:Nat) (a b:AV) (K:AV→Prop):Prop:=
 match a,b with
 | .int k x,.int k' y=>bif decide (k=k') then UJ op k x y K else (match op with| .shr=>VC (0≤y) (K (.int k (x.fdiv (2 ^ min y.toNat k.bits))))|_=>False)
 | .str x,.str y=>(match op with
  | .eql=>K (.bool (decide (x=y)))
  | .neq=>K (.bool (!decide (x=y)))
  | .add=>VC (x.size+y.size≤L) (K (.str (x++y)))
  |_=>False)
 | .bool x,.bool y=>bif decide ((T t).kind= .bool) then (match op with
  | .eql=>K (.bool (x == y))
  | .neq=>K (.bool (!(x == y)))
  |_=>False) else False
 | .agg l,.agg m=>bif DK T t l then (match op,kK l m with
  | .eql,some b=>K (.bool b)
  | .neq,some b=>K (.bool (!b))
  |_,_=>False) else False
 |_,_=>False
def unA (op:UnOp) (v:SV) (K:SV→Prop):Prop:=
 match op,v with
 | .not,.data (.bool b)=>K (.data (.bool (!b)))
 | .neg,.data (.int k n)=>Arith k (0 - n) fun r=>K (.data (.int k r))
 |_,_=>False
def Ws (v:SV) (c:Option (List AV)) (X:Bool→Prop):Prop:=
 match v with
 | .aj=>X true
 |_=>match c with|some l=>XF l X|none=>False
def XG (op:BinOp) (t:Nat) (v:SV) (c:Option (List AV)) (K:AV→Prop):Prop:=
 match (T t).kind,op with
 | .slice _,.eql=>Ws v c fun b=>K (.bool b)
 | .slice _,.neq=>Ws v c fun b=>K (.bool (!b))
 |_,_=>False
def iX (t f:Nat):Option (Nat×Nat):=match (T t).kind with| .struct fs=>fs[f]? |_=>none
def bW (l:List AV) (off:Nat) (ty:Ty):Option AV:=
 bif ty.agg then some (.agg ((l.drop off).take ty.size)) else l[off]?
def fE (ty:Ty) (a:AV) (K:AV→Prop):Prop:=
 bif !ty.good then False else bif ty.agg then (match a with| .agg l=>bif Nat.beq l.length ty.size then K (.agg l) else False|_=>False)
 else (match a with| .agg _=>False|a=>K a)
def jT (ty:Ty) (cells:List SV) (off:Nat) (K:SV→Prop):Prop:=
 bif !ty.good then False else bif ty.agg then (bif Nat.ble (off+ty.size) cells.length then K (EI ((cells.drop off).take ty.size)) else False)
 else (match cells[off]? with|some v=>K v|none=>False)
def fF (e:AV) (off:Nat) (v:AV):AV:=
 match e with
 | .agg l=>.agg (l.take off++v.cells++l.drop (off+v.cells.length))
 |_=>v
def lQ (fs:List (Nat×Nat)) (s:St):List (Nat×Operand)→List SV→Option (List SV)
 |[],cells=>some cells
 |(i,x)::r,cells=>match fs[i]?,(s.ev x).cells with
  |some (off,t),some new=>bif (T t).good&&Nat.beq new.length (T t).size&&(s.ev x).stands s then lQ fs s r (splice cells off new) else none
  |_,_=>none
def vQ:ZC→SV
 | .aj=>.aj
 |z=>.data z.av
def ng (ty:Ty):AV:=bif ty.agg then .agg (ty.zero.map ZC.av) else (match ty.zero with|z::_=>z.av|[]=>.agg [])
def oG (sz:Nat) (s:St):Nat→List (Nat×Operand)→Option (List SV)
 |_,[]=>some []
 |i,(j,x)::r=>match (s.ev x).cells,oG sz s (i+1) r with
  |some new,some rest=>bif Nat.beq i j&&Nat.beq new.length sz&&(s.ev x).stands s then some (new++rest) else none
  |_,_=>none
def wide (ty:Ty) (n:Nat):Bool:=Nat.ble 2 n&& !ty.flat
def rV (z:List ZC) (τ:Nat) (s:St):Nat→List (Nat×Operand)→(List AV→Bool→St→Prop)→Prop
 |_,[],K=>K [] true s
 |i,(j,x)::r,K=>bif Nat.beq i j then qW τ s (s.ev x) fun a q s1=>bif bO z a.cells then rV z τ s1 (i+1) r fun as q' s2=>K (a::as) (q&&q') s2 else False else False
def RV.quiet:RV→Option SV
 | .d (.bool b)=>some (.data (.bool b))
 | .d (.int k n)=>some (.data (.int k n))
 |_=>none
def dn (d:Option Nat):Nat:=1000*((match d with|some d=>d|none=>3000000)+1)
def AR.JV:AR→Bool
 | .bx _=>true
 |_=>false
def AR.plain:AR→Bool
 | .ref _=>false
 | .fn _ (_::_)=>false
 |_=>true
def mF:List AR→Bool
 |[]=>true
 |x::r=> !x.JV&&mF r
def uw:List AR→Bool
 |[]=>true
 |x::r=>x.plain&&uw r
def yX (A:List SV) (s0 s:St) (d:Option Nat) (args:List AR) (r:RV) (K:St→Prop):Prop:=
 match r with
 | .eff i r' cs=>(match A[i]? with
  |some (.box b g 0)=>bif (SV.box b g 0).stands s&& !mF args then
    (let p:=r'.lay A (s.dJ b g (List.replicate cs.length .undef)) (dn d);let q:=RV.mH A p.2 (1000*(b+1)) cs;K ((q.2.dJ b g q.1).put d p.1)) else False
  |_=>False)
 | .ptr cs=>(match d with
  |some d=>bif mF args&&Nat.blt d 1000000 then K ((bP s d (cs.map .data)).2.set d (bP s d (cs.map .data)).1) else False
  |none=>False)
 |r=>bif mF args then (match d with
  |some d=>(match r.quiet with
   |some v=>K (s0.set d v)
   |none=>let (v,s1):=r.lay A s (1000*(d+1));K (s1.set d v))
  |none=>K s) else False
def RV.wF:RV→Bool
 | .eff _ _ _=>true
 | .ptr _=>true
 |_=>false
def RV.UK:RV→Bool
 | .ptr _=>true
 |_=>false
theorem ni {A:List SV} {s0 s:St} {d:Option Nat} {args:List AR} {r:RV} {K:St→Prop} (h:r.wF=false):yX A s0 s d args r K=(bif mF args then (match d with
  |some d=>(match r.quiet with
   |some v=>K (s0.set d v)
   |none=>K ((r.lay A s (1000*(d+1))).2.set d (r.lay A s (1000*(d+1))).1))
  |none=>K s) else False):=by
 cases r<;>first|rfl|cases h
def pX (A:List SV) (s0 s:St) (d:Option Nat) (f:Nat) (ck args:List AR) (K:St→Prop):Prop:=
 bif mF ck||uw args then C f args fun r=>yX A s0 s d ck r K else False
def sliceLen (s:St):SV→Option Int
 | .data (.str x)=>some x.size
 |v=>match s.content v with|some l=>some l.length|none=>none
def bound (s:St) (dflt:Int):Option Operand→Option Int
 |none=>some dflt
 |some x=>match s.ev x with| .data (.int _ n)=>some n|_=>none
def jU (l:List AV) (a b:Int):List AV:=(l.take b.toNat).drop a.toNat
def eB (s:St) (d:Option Nat) (b:Builtin) (ts:List Nat) (args:List SV) (K:St→Prop):Prop:=
  match b,args with
  | .len,[x]=>(match ts with
    |[t]=>(match (T t).kind,s.content x,x with
      | .slice _,some l,_=>K (s.put d (.data (.int .i64 l.length)))
      | .str,_,.data (.str b)=>K (s.put d (.data (.int .i64 b.size)))
      | .slice _,none,.old (.sl l)=>K (s.put d (.data (.int .i64 l.length)))
      | .slice _,none,.bsl b g n=>bif (SV.bsl b g n).stands s then K (s.put d (.data (.int .i64 (n:Nat)))) else False
      |_,_,_=>False)
    |_=>False)
  | .max,[.data (.int k x),.data (.int k' y)]=>bif decide (k=k') then K (s.put d (.data (.int k (max x y)))) else False
  | .min,[.data (.int k x),.data (.int k' y)]=>bif decide (k=k') then K (s.put d (.data (.int k (min x y)))) else False
  | .append,[x,y]=>
    (match s.content y,ts,d with
    |some m,[t1,t2],some dd=>(match (T t1).kind with
      | .slice E=>bif (T E).good&&Nat.beq t1 t2 then
        (match x with
         | .own τ g=>(match s.tok τ with
            |some t=>bif Nat.beq t.gen g&& !t.frz&&Nat.beq t.E E then
                VC (t.l.length+m.length≤L∧∀x∈m,bO (T E).zero x.cells=true) (bif (T E).flat then K ((s.aU τ ⟨g+1,false,E,t.l++m,true⟩).set dd (.own τ (g+1)))
                  else K (((jY τ s y).aU τ ⟨g+1,false,E,t.l++m,t.lin&&oP τ s y⟩).set dd (.own τ (g+1)))) else False
            |none=>False)
         | .aj=>VC (m.length≤L∧∀x∈m,bO (T E).zero x.cells=true) (bif (T E).flat then (let r:=eY s dd E m true;K (r.2.set dd r.1))
             else (let r:=eY (jY dd s y) dd E m (oP dd s y);K (r.2.set dd r.1)))
         |_=>False) else False
      |_=>False)
    |_,_,_=>False)
  |_,_=>False
def aop (o:Oper) (s:St) (K:St→Prop):Prop:=
 match o.op with
 | .move x| .assign x=>K (s.put o.dst (s.ev x))
 | .pick (.tmp c) a b=>match s.get c with
  | .data (.bool t)=>Br t fun t=>K ((s.set c (.data (.bool t))).put o.dst (bif t then s.ev a else s.ev b))
  |_=>False
 | .alloc E=>match o.dst with
  |some d=>bif (T E).good&&Nat.blt d 1000000 then (let r:=bP s d ((T E).zero.map vQ);K (r.2.set d r.1)) else False
  |none=>False
 | .box E x=>match o.dst,(s.ev x).cells with
  |some d,some cells=>bif (T E).good&&Nat.beq cells.length (T E).size&&(s.ev x).stands s&&Nat.blt d 1000000 then (let r:=bP s d cells;K (r.2.set d r.1)) else False
  |_,_=>False
 | .build t parts=>match (T t).kind with
  | .struct fs=>(match lQ T fs s parts.toList ((T t).zero.map vQ) with
   |some cells=>K (s.put o.dst (EI cells))
   |none=>False)
  |_=>False
 | .buildSlice t n parts=>match (T t).kind,o.dst with
  | .slice E,some d=>bif Nat.beq n parts.toList.length&&(T E).good&&Nat.ble (n*(T E).size) 1000&&Nat.blt d 1000000 then
    bif wide (T E) n then (match oG (T E).size s 0 parts.toList with
     |some cells=>(let r:=bP s d cells;K (r.2.set d (.bsl d (fZ (s.mem d)) n)))
     |none=>False)
    else rV (T E).zero d s 0 parts.toList fun as q s1=>(let r:=eY s1 d E as ((T E).flat||q);K (r.2.set d r.1)) else False
  |_,_=>False
 | .load t a=>match s.ev a with
  | .ref x=>fE (T t) x fun v=>K (s.put o.dst (.data v))
  | .dI x=>fE (T t) x fun v=>K (s.put o.dst (oZ v))
  | .box d g off=>(match s.mem d with
   |some (g',cells)=>bif Nat.beq g' g then jT (T t) cells off fun v=>K (s.put o.dst v) else False
   |none=>False)
  | .jy τ g k off=>(match s.tok τ with
   |some tk=>bif Nat.beq tk.gen g&& !tk.frz then
     Idx tk.l k fun _ x=>(match bW x.cells off (T t) with
      |some v=>bif Nat.ble (off+(T t).size) x.cells.length then fE (T t) v fun v=>K (s.put o.dst (.data v)) else False
      |none=>False) else False
   |none=>False)
  |_=>False
 | .store t a x=>match s.ev a with
  | .box d g off=>(match (s.ev x).cells,s.mem d with
   |some new,some (g',cells)=>bif Nat.beq g' g&&(T t).good&&(s.ev x).stands s&&Nat.beq new.length (T t).size&&Nat.ble (off+new.length) cells.length then
     K ((s.dJ d g (splice cells off new)).put o.dst .undef) else False
   |_,_=>False)
  | .jy τ g k off=>bif (T t).good then qW τ s (s.ev x) fun v q s1=>(match s1.tok τ with
   |some tk=>bif Nat.beq tk.gen g&& !tk.frz&&bO (T t).zero v.cells&&wE (T tk.E) (T t) off then
     Idx tk.l k fun j e=>bif Nat.ble (off+(T t).size) e.cells.length then
      K ((s1.aU τ { tk with l:=tk.l.set j (fF e off v),lin:=tk.lin&&((T t).flat||q) }).put o.dst .undef) else False
     else False
   |none=>False) else False
  | .dI .any=>bif (T t).good&&Nat.beq (T t).size 1&&(s.ev x).QV then K (s.put o.dst .undef) else False
  |_=>False
 | .nilCheck x=>match s.ev x with
  | .box d g off=>bif (SV.box d g off).stands s then K (s.put o.dst (.box d g off)) else False
  | .ref a=>K (s.put o.dst (.ref a))
  | .dI a=>K (s.put o.dst (.dI a))
  | .fn f c=>K (s.put o.dst (.fn f c))
  | .fnr f c=>K (s.put o.dst (.fnr f c))
  |_=>False
 | .binOp op t x y _=>match s.ev y with
  | .aj=>XG T op t (s.ev x) (s.content (s.ev x)) fun v=>K (s.put o.dst (.data v))
  | .data b=>(match s.ev x with
   | .data a=>GL T L op t a b fun v=>K (s.put o.dst (.data v))
   |_=>False)
  |_=>False
 | .unOp op _ x=>unA op (s.ev x) fun v=>K (s.put o.dst v)
 | .convert src t x=>match (T src).kind,(T t).kind,s.ev x with
  | .int _,.int k,.data (.int _ n)=>K (s.put o.dst (.data (.int k (k.wrap n))))
  |_,_,_=>False
 | .makeFunc (.func f) first captured=>bif first.isEmpty then K (s.put o.dst (.fn f (captured.toList.map s.ev))) else False
 | .fieldAddr t x f=>match s.ev x,iX T t f with
  | .box d g off,some (fo,_)=>bif (SV.box d g off).stands s then K (s.put o.dst (.box d g (off+fo))) else False
  | .ref (.agg l),some (fo,ft)=>(match bW l fo (T ft) with
   |some v=>K (s.put o.dst (.ref v))
   |none=>False)
  | .dI (.agg l),some (fo,ft)=>(match bW l fo (T ft) with
   |some v=>K (s.put o.dst (.dI v))
   |none=>False)
  | .jy τ g k off,some (fo,_)=>bif (SV.jy τ g k off).stands s then K (s.put o.dst (.jy τ g k (off+fo))) else False
  |_,_=>False
 | .field t x f=>match s.ev x,iX T t f with
  | .data (.agg l),some (fo,ft)=>(match bW l fo (T ft),Nat.beq l.length (T t).size with
   |some v,true=>K (s.put o.dst (.data v))
   |_,_=>False)
  | .old (.agg l),some (fo,ft)=>(match bW l fo (T ft),Nat.beq l.length (T t).size with
   |some v,true=>K (s.put o.dst (oZ v))
   |_,_=>False)
  | .iF l,some (fo,ft)=>bif Nat.beq l.length (T t).size then jT (T ft) l fo fun v=>K (s.put o.dst v) else False
  |_,_=>False
 | .indexAddr t x i=>match (T t).kind,s.ev x,s.ev i with
  | .slice E,.data (.sl l),.data (.int _ n)=>bif (T E).good then Idx l n fun _ x=>bif Nat.beq x.cells.length (T E).size then K (s.put o.dst (.ref x)) else False else False
  | .slice E,.old (.sl l),.data (.int _ n)=>bif (T E).good then Idx l n fun _ x=>bif Nat.beq x.cells.length (T E).size then K (s.put o.dst (.dI x)) else False else False
  | .slice E,.fr l,.data (.int _ n)=>bif (T E).good then Idx l n fun _ x=>bif Nat.beq x.cells.length (T E).size then K (s.put o.dst (.ref x)) else False else False
  | .slice E,.own τ g,.data (.int _ n)=>(match s.tok τ with
   |some tk=>bif Nat.beq tk.gen g&&Nat.beq tk.E E&&(T E).good then
     (bif tk.frz then Idx tk.l n fun _ x=>bif Nat.beq x.cells.length (T E).size then K (s.put o.dst (.ref x)) else False
      else Idx tk.l n fun k _=>K (s.put o.dst (.jy τ g k 0))) else False
   |none=>False)
  | .slice E,.bsl d g m,.data (.int _ n)=>bif (SV.bsl d g m).stands s&&(T E).good then VC (0≤n∧n < m) (K (s.put o.dst (.box d g (n.toNat*(T E).size)))) else False
  |_,_,_=>False
 | .index t x i=>match (T t).kind,s.ev x,s.ev i with
  | .str,.data (.str b),.data (.int _ n)=>VC (0≤n∧n < b.size) (K (s.put o.dst (.data (.int .u8 ((b.data.toList.getD n.toNat 0).toNat)))))
  |_,_,_=>False
 | .slice t x lo hi none=>match (T t).kind,sliceLen s (s.ev x) with
  | .slice E,some len=>(match bound s 0 lo,bound s len hi with
   |some a,some b=>VC (0≤a∧a≤b∧b≤len) (bif (T E).good then mZ s (s.ev x) fun v s1=>match v with
    | .sl l=>VC ((l.length:Int)=len∧(a=0∨∀x,l.head? =some x→x.cells.length=(T E).size)) (K (s1.put o.dst (.data (.sl (jU l a b)))))
    |_=>False else False)
   |_,_=>False)
  | .str,some len=>(match bound s 0 lo,bound s len hi,s.ev x with
   |some a,some b,.data (.str v)=>VC (0≤a∧a≤b∧b≤len) (K (s.put o.dst (.data (.str (v.extract a.toNat b.toNat)))))
   |_,_,_=>False)
  |_,_=>False
 | .makeSlice t n cp=>match (T t).kind,o.dst,s.ev n,s.ev cp with
  | .slice E,some d,.data (.int .i64 m),.data (.int .i64 m')=>bif (T E).good then VC (m'=m∧0≤m∧m≤L) (let r:=eY s d E (List.replicate m.toNat (ng (T E))) true;K (r.2.set d r.1)) else False
  |_,_,_,_=>False
 | .extract x i=>match s.ev x with
  | .tup l=>(match l[i]? with|some v=>K (s.put o.dst v)|none=>False)
  |_=>False
 | .call c=>match c.callee with
  | .builtin b=>eB T L s o.dst b c.argTypes.toList (c.args.toList.map s.ev) K
  | .value (.func f)=>gT s (c.args.toList.map s.ev) fun as s1=>pX C (c.args.toList.map s.ev) s s1 o.dst f as as K
  | .value (.tmp t)=>(match s.get t with
   | .fnr f caps=>gT s (c.args.toList.map s.ev) fun as s1=>pX C (c.args.toList.map s.ev) s s1 o.dst f as (as++caps.map .ref) K
   | .fn f caps=>gT s (c.args.toList.map s.ev) fun as s1=>iL s1 caps fun cs s2=>pX C (c.args.toList.map s.ev) s s2 o.dst f as (as++cs.map .ref) K
   |_=>False)
  |_=>False
 |_=>False
def FW (ops:List Oper):List Oper→St→(St→Prop)→Prop
 |[],s,K=>K s
 |o::r,s,K=>match o.guard with
  |none=>aop T C L o s fun s1=>FW ops r s1 K
  |some (g,want)=>match (match ops[g]? with|some og=>og.dst|none=>none) with
   |some t=>(match s.get t with
    | .data (.bool b)=>Br b fun b=>bif (b == want) then aop T C L o (s.set t (.data (.bool b))) (fun s1=>FW ops r s1 K)
      else FW ops r ((s.set t (.data (.bool b))).put o.dst .gone) K
    | .gone=>FW ops r (s.put o.dst .gone) K
    |_=>False)
   |none=>False
end
end Go.Proofs.YtjfnojijdggfhaaGreat.Abs
namespace Go.Proofs.YtjfnojijdggfhaaGreat.Abs
inductive Key where
 |slot (i:Nat)
 |mem (d:Nat)
 |tok (t:Nat)
def Key.beq:Key→Key→Bool
 | .slot i,.slot j=>Nat.beq i j
 | .mem i,.mem j=>Nat.beq i j
 | .tok i,.tok j=>Nat.beq i j
 |_,_=>false
theorem Key.beq_iff {k k':Key}:Key.beq k k'=true↔k=k':=by
 cases k<;>cases k'<;>simp [Key.beq]
def Key.isIn (k:Key):List Key→Bool
 |[]=>false
 |k'::r=>k.beq k'||k.isIn r
theorem Key.Ov {k:Key}:∀{l:List Key},k.isIn l=true↔k∈l
 |[]=>by simp [Key.isIn]
 |k'::r=>by simp [Key.isIn,Key.beq_iff,Key.Ov (l:=r)]
def apart:List Key→List Key→Bool
 |[],_=>true
 |k::r,l=> !k.isIn l&&apart r l
theorem apart_spec:∀{a b:List Key},apart a b=true→∀k∈a,k∉b
 |[],_,_,_,h=>by simp at h
 |k'::r,b,h,k,hk=>by
  simp only [apart,Bool.and_eq_true,Bool.not_eq_true'] at h
  rcases List.mem_cons.1 hk with rfl|hk
  ·intro hb;rw [Key.Ov.2 hb] at h;simp at h
  ·exact apart_spec h.2 k hk
def same (k:Key) (s t:St):Prop:=
 match k with
 | .slot i=>s.get i=t.get i
 | .mem d=>s.mem d=t.mem d
 | .tok τ=>s.tok τ=t.tok τ
theorem same.trans {k:Key} {s t u:St} (h:same k s t) (h':same k t u):same k s u:=by
 cases k<;>simp_all [same]
theorem same.symm {k:Key} {s t:St} (h:same k s t):same k t s:=by
 cases k<;>simp_all [same]
theorem same.refl {k:Key} {s:St}:same k s s:=by
 cases k<;>simp [same]
theorem St.ext' {s t:St} (hn:s.n=t.n) (h:∀k,same k s t):s=t:=by
 cases s;cases t
 simp only [St.mk.injEq] at*
 refine⟨hn,?_,?_,?_⟩
 ·funext i;exact h (.slot i)
 ·funext i;exact h (.mem i)
 ·funext i;exact h (.tok i)
inductive Wr where
 |slot (i:Nat) (v:SV)
 |mem (d g:Nat) (cells:List SV)
 |tok (τ:Nat) (t:Tok)
def Wr.key:Wr→Key
 | .slot i _=>.slot i
 | .mem d _ _=>.mem d
 | .tok τ _=>.tok τ
def St.wr (s:St):Wr→St
 | .slot i v=>s.set i v
 | .mem d g cs=>s.dJ d g cs
 | .tok τ t=>s.aU τ t
def St.app (s:St):List Wr→St
 |[]=>s
 |w::r=>(s.wr w).app r
theorem St.XH {s:St} {w:Wr}:(s.wr w).n=s.n:=by cases w<;>rfl
theorem St.sS:∀{ws:List Wr} {s:St},(s.app ws).n=s.n
 |[],_=>rfl
 |w::r,s=>by simp only [St.app];rw [St.sS,St.XH]
theorem St.aF:∀{ws vs:List Wr} {s:St},s.app (ws++vs)=(s.app ws).app vs
 |[],_,_=>rfl
 |w::r,vs,s=>by simp only [List.cons_append,St.app];exact St.aF
theorem Wt {s t:St} {w:Wr} {k:Key} (hn:s.n=t.n) (h:same k s t):same k (s.wr w) (t.wr w):=by
 cases w<;>cases k<;>simp_all [same,St.wr,St.set,St.dJ,St.aU]
theorem QW {s:St} {w:Wr} {k:Key} (h:k≠w.key):same k s (s.wr w):=by
 cases w<;>cases k<;>simp_all [same,St.wr,St.set,St.dJ,St.aU,Wr.key,cond]
 all_goals (split<;>simp_all)
theorem gW:∀{ws:List Wr} {s t:St} {k:Key},s.n=t.n→same k s t→same k (s.app ws) (t.app ws)
 |[],_,_,_,_,h=>h
 |w::r,s,t,k,hn,h=>by
  simp only [St.app]
  exact gW (by simp [St.XH,hn]) (Wt hn h)
def jZ (k:Key) (ws:List Wr):List Wr:=ws.filter fun w=>w.key.beq k
theorem uy {k:Key}:∀{ws:List Wr} {s:St},same k (s.app ws) (s.app (jZ k ws))
 |[],_=>same.refl
 |w::r,s=>by
  cases hb:w.key.beq k with
  |true=>
   simp only [jZ,List.filter_cons,hb,if_true,St.app]
   exact uy
  |false=>
   simp only [jZ,List.filter_cons,hb,St.app]
   refine same.trans ?_ uy
   exact gW St.XH (QW fun e=>by rw [e,Key.beq_iff.2 rfl] at hb;cases hb).symm
theorem rW {k:Key} {ws vs:List Wr} {s:St} (h:jZ k ws=jZ k vs):same k (s.app ws) (s.app vs):=
 uy.trans (h ▸ uy.symm)
theorem kL {k:Key} {ws vs:List Wr}:jZ k (ws++vs)=jZ k ws++jZ k vs:=by simp [jZ]
theorem xX {k:Key} {ws:List Wr} {W:List Key} (hw:∀w∈ws,w.key∈W) (hk:k∉W):jZ k ws= []:=by
 simp only [jZ,List.filter_eq_nil_iff]
 intro w hm hb
 exact hk (Key.beq_iff.1 hb ▸ hw w hm)
def sel (l:Nat→Bool) (i:Nat):List (List Wr)→List Wr
 |[]=>[]
 |ws::r=>(bif l i then ws else [])++sel l (i+1) r
theorem xY {k:Key} {l l':Nat→Bool}:∀{tr:List (List Wr)} {i:Nat},
  (∀j ws,tr[j]? =some ws→l (i+j)=l' (i+j)∨jZ k ws= [])→jZ k (sel l i tr)=jZ k (sel l' i tr)
 |[],_,_=>rfl
 |ws::r,i,h=>by
  simp only [sel,kL]
  congr 1
  ·rcases h 0 ws rfl with h|h
   ·rw [Nat.add_zero] at h;rw [h]
   ·cases l i<;>cases l' i<;>simp [h]<;>rfl
  ·refine xY fun j ws hj=>?_
   have:=h (j+1) ws (by simpa using hj)
   rwa [show i+(j+1)=i+1+j by omega] at this
theorem GN {k:Key} {l:Nat→Bool}:∀{tr:List (List Wr)} {i:Nat},
  (∀j ws,tr[j]? =some ws→l (i+j)=true→jZ k ws= [])→jZ k (sel l i tr)= []
 |[],_,_=>rfl
 |ws::r,i,h=>by
  simp only [sel,kL]
  rw [GN (tr:=r) fun j ws hj hl=>h (j+1) ws (by simpa using hj) (by rwa [show i+(j+1)=i+1+j by omega])]
  cases hl:l i with
  |true=>simp [h 0 ws rfl (by simpa using hl)]
  |false=>rfl
theorem SG {k:Key} {l l':Nat→Bool} {m:Nat} {wm:List Wr} (hm:l m=false) (hm':l' m=true) (ho:∀j,j≠m→l' j=l j):
  ∀{tr:List (List Wr)} {i e:Nat},i+e=m→tr[e]? =some wm→(∀j ws,e < j→tr[j]? =some ws→l (i+j)=true→jZ k ws= [])→
   jZ k (sel l' i tr)=jZ k (sel l i tr++wm)
 |[],_,_,_,h,_=>by simp at h
 |ws::r,i,0,hi,h,hj=>by
  simp only [List.getElem?_cons_zero,Option.some.injEq] at h;subst h
  simp only [Nat.add_zero] at hi;subst hi
  simp only [sel,kL,hm,hm',cond_true,cond_false]
  have h1:jZ k (sel l (i+1) r)= []:=GN fun j ws' hj' hl=>hj (j+1) ws' (by omega) (by simpa using hj') (by rwa [show i+(j+1)=i+1+j by omega])
  have h2:jZ k (sel l' (i+1) r)= []:=by
   refine GN fun j ws' hj' hl=>hj (j+1) ws' (by omega) (by simpa using hj') ?_
   rw [ho _ (by omega)] at hl
   rwa [show i+(j+1)=i+1+j by omega]
  rw [h1,h2];simp [jZ]
 |ws::r,i,e+1,hi,h,hj=>by
  simp only [sel,List.append_assoc]
  rw [kL,kL,ho i (by omega)]
  congr 1
  exact SG hm hm' ho (i:=i+1) (e:=e) (by omega) (by simpa using h) fun j ws' hlt hj' hl=>hj (j+1) ws' (by omega) (by simpa using hj') (by rwa [show i+(j+1)=i+1+j by omega])
abbrev RW:=List Key×List Key
def clash (a b:RW):Bool:= !(apart a.2 b.1&&apart a.2 b.2&&apart b.2 a.1)
theorem zL {a b:RW} (h:clash a b=false):(∀k∈a.2,k∉b.1)∧(∀k∈a.2,k∉b.2)∧(∀k∈b.2,k∉a.1):=by
 simp only [clash,Bool.not_eq_false',Bool.and_eq_true] at h
 exact⟨apart_spec h.1.1,apart_spec h.1.2,apart_spec h.2⟩
section
variable {s0:St} {tr:List (List Wr)} {fp:List RW} {l:Nat→Bool}
theorem Ow {i:Nat} {p:RW} (hlen:fp.length=tr.length)
  (hw:∀(j:Nat) (ws:List Wr) (q:RW),tr[j]? =some ws→fp[j]? =some q→∀w∈ws,w.key∈q.2)
  (hlo:∀(j:Nat) (q:RW),j < i→l j=false→fp[j]? =some q→clash q p=false)
  (hhi:∀(j:Nat) (q:RW),i≤j→l j=true→fp[j]? =some q→clash p q=false):
  ∀k∈p.1,same k (s0.app (sel (fun j=>decide (j < i)) 0 tr)) (s0.app (sel l 0 tr)):=by
 intro k hk
 refine rW (xY fun j ws hj=>?_)
 obtain⟨q,hq⟩:∃q,fp[j]? =some q:=by
  have:j < fp.length:=by rw [hlen];exact (List.getElem?_eq_some_iff.1 hj).1
  exact⟨_,List.getElem?_eq_getElem this⟩
 simp only [Nat.zero_add]
 by_cases hji:j < i
 ·cases hl:l j with
  |true=>left;simp [hji]
  |false=>
   right
   refine xX (hw j ws q hj hq) fun hkq=>?_
   exact (zL (hlo j q hji hl hq)).1 k hkq hk
 ·cases hl:l j with
  |false=>left;simp [hji]
  |true=>
   right
   refine xX (hw j ws q hj hq) fun hkq=>?_
   exact (zL (hhi j q (by omega) hl hq)).2.2 k hkq hk
theorem QX {i:Nat} {l':Nat→Bool} {p:RW} {wi:List Wr} (hp:fp[i]? =some p) (hi:tr[i]? =some wi) (hlen:fp.length=tr.length)
  (hw:∀(j:Nat) (ws:List Wr) (q:RW),tr[j]? =some ws→fp[j]? =some q→∀w∈ws,w.key∈q.2)
  (hhi:∀(j:Nat) (q:RW),i < j→l j=true→fp[j]? =some q→clash p q=false)
  (hl:l i=false) (hl':l' i=true) (ho:∀j,j≠i→l' j=l j):
  s0.app (sel l' 0 tr)=(s0.app (sel l 0 tr)).app wi:=by
 rw [← St.aF]
 refine St.ext' (by simp [St.sS]) fun k=>rW ?_
 by_cases hk:jZ k wi= []
 ·rw [kL,hk,List.append_nil]
  refine xY fun j ws hj=>?_
  by_cases hji:j=i
  ·subst hji;rw [hi] at hj;cases hj;exact .inr hk
  ·left;simpa using ho j hji
 ·refine SG hl hl' ho (by omega:0+i=i) hi fun j ws hlt hj hlj=>?_
  obtain⟨q,hq⟩:∃q,fp[j]? =some q:=by
   have:j < fp.length:=by rw [hlen];exact (List.getElem?_eq_some_iff.1 hj).1
   exact⟨_,List.getElem?_eq_getElem this⟩
  refine xX (hw j ws q hj hq) fun hkq=>hk (xX (hw i wi p hi hp) fun hkp=>?_)
  exact (zL (hhi j q hlt (by simpa using hlj) hq)).2.1 k hkp hkq
end
inductive Anc (ops:List Oper):Nat→Nat→Prop
 |one {j:Nat} {o:Oper} {e:Edge}:ops[j]? =some o→e∈o.after.toList→Region.binds .any e=true→Anc ops j e.on
 |more {j i:Nat} {o:Oper} {e:Edge}:ops[j]? =some o→e∈o.after.toList→Region.binds .any e=true→Anc ops e.on i→Anc ops j i
def zM (masks:List Nat):List Edge→Nat
 |[]=>0
 |e::r=>(bif Region.binds .any e then (2 ^ e.on)|||(masks.getD e.on 0) else 0)|||zM masks r
def Gw (m:Nat) (p:RW):Nat→List RW→Bool
 |_,[]=>true
 |i,q::r=>(m.testBit i|| !clash q p)&&Gw m p (i+1) r
def KI:Nat→List Nat→List RW→List Oper→List RW→Bool
 |_,_,_,[],[]=>true
 |j,masks,fps,o::r,p::ps=>o.after.toList.all (fun e=> !Region.binds .any e||Nat.blt e.on j)&&(Gw (zM masks o.after.toList) p 0 fps&&
   KI (j+1) (masks++[zM masks o.after.toList]) (fps++[p]) r ps)
 |_,_,_,_,_=>false
theorem EJ {ops:List Oper} {masks:List Nat} (hm:∀e i,(masks.getD e 0).testBit i=true→Anc ops e i) {j:Nat} {o:Oper} (ho:ops[j]? =some o):
  ∀(l:List Edge),(∀e∈l,e∈o.after.toList)→∀i,(zM masks l).testBit i=true→Anc ops j i
 |[],_,i,h=>by simp [zM] at h
 |e::r,hl,i,h=>by
  simp only [zM,Nat.testBit_or,Bool.or_eq_true] at h
  rcases h with h|h
  ·cases hb:Region.binds .any e with
   |false=>simp [hb] at h
   |true=>
    simp only [hb,cond_true,Nat.testBit_or,Bool.or_eq_true,Nat.testBit_two_pow,decide_eq_true_eq] at h
    rcases h with h|h
    ·exact h ▸ .one ho (hl e (by simp)) hb
    ·exact .more ho (hl e (by simp)) hb (hm _ _ h)
  ·exact EJ hm ho r (fun e he=>hl e (by simp [he])) i h
theorem Aw {m:Nat} {p:RW}:∀{l:List RW} {i:Nat},Gw m p i l=true→∀k q,l[k]? =some q→m.testBit (i+k)=true∨clash q p=false
 |[],_,_,k,q,hq=>by simp at hq
 |q'::r,i,h,k,q,hq=>by
  simp only [Gw,Bool.and_eq_true,Bool.or_eq_true,Bool.not_eq_true'] at h
  cases k with
  |zero=>simp at hq;subst hq;simpa using h.1
  |succ k=>
   have:=Aw h.2 k q (by simpa using hq)
   rwa [show i+1+k=i+(k+1) by omega] at this
structure Xp (ops:List Oper) (fp:List RW):Prop where
 low:∀(j:Nat) (o:Oper),ops[j]? =some o→∀e∈o.after.toList,Region.binds .any e=true→e.on < j
 len:ops.length=fp.length
 ord:∀(i j:Nat) (p q:RW),i < j→fp[i]? =some p→fp[j]? =some q→Anc ops j i∨clash p q=false
theorem GQ {ops:List Oper} {fp:List RW}:∀(r:List Oper) (ps:List RW) (masks:List Nat) (pre:List Oper) (fps:List RW),
  ops=pre++r→fp=fps++ps→pre.length=fps.length→masks.length=pre.length→(∀e i,(masks.getD e 0).testBit i=true→Anc ops e i)→
  KI pre.length masks fps r ps=true→
  r.length=ps.length∧∀j,pre.length≤j→(∀o,ops[j]? =some o→∀e∈o.after.toList,Region.binds .any e=true→e.on < j)∧∀i p q,i < j→fp[i]? =some p→fp[j]? =some q→Anc ops j i∨clash p q=false
 |[],[],masks,pre,fps,ho,hf,hl,hml,hm,_=>by
  refine⟨rfl,fun j hj=>⟨fun o h=>?_,fun i p q _ _ h=>?_⟩⟩
  ·have:=(List.getElem?_eq_some_iff.1 h).1
   rw [ho] at this;simp at this;omega
  ·have:=(List.getElem?_eq_some_iff.1 h).1
   rw [hf] at this;simp at this;omega
 |[],_::_,_,_,_,_,_,_,_,_,h=>by simp [KI] at h
 |_::_,[],_,_,_,_,_,_,_,_,h=>by simp [KI] at h
 |o::r,p::ps,masks,pre,fps,ho,hf,hl,hml,hm,h=>by
  simp only [KI,Bool.and_eq_true,List.all_eq_true] at h
  obtain⟨h1,h2,h3⟩:=h
  have hoj:ops[pre.length]? =some o:=by rw [ho];simp
  have hms:=EJ hm hoj o.after.toList (fun e he=>he)
  have ih:=GQ (ops:=ops) (fp:=fp) r ps (masks++[zM masks o.after.toList]) (pre++[o]) (fps++[p]) (by simp [ho]) (by simp [hf]) (by simp [hl]) (by simp [hml]) (by
   intro e i he
   by_cases hlt:e < masks.length
   ·rw [List.getD_eq_getElem?_getD,List.getElem?_append_left hlt, ← List.getD_eq_getElem?_getD] at he
    exact hm e i he
   ·by_cases heq:e=masks.length
    ·subst heq
     rw [List.getD_eq_getElem?_getD] at he
     simp at he
     rw [hml];exact hms i he
    ·rw [List.getD_eq_getElem?_getD,List.getElem?_eq_none (by simp;omega)] at he
     simp at he) (by simpa using h3)
  refine⟨by simp [ih.1],fun j hj=>?_⟩
  rcases Nat.lt_or_ge pre.length j with hlt|hge
  ·exact ih.2 j (by simp;omega)
  ·have:j=pre.length:=by omega
   subst this
   refine⟨fun o' ho' e he hb=>?_,fun i p' q hi hp' hq=>?_⟩
   ·rw [hoj] at ho';cases ho'
    have h1e:=h1 e he
    rw [hb] at h1e
    exact Nat.blt_eq ▸ (by simpa using h1e)
   ·have hq':q=p:=by rw [hf,hl] at hq;simpa using hq.symm
    subst hq'
    have hp'':fps[i]? =some p':=by
     rw [hf,List.getElem?_append_left (by omega)] at hp';exact hp'
    rcases Aw h2 i p' hp'' with h|h
    ·exact .inl (hms i (by simpa using h))
    ·exact .inr h
def Ay (ops:List Oper) (fp:List RW):Bool:=KI 0 [] [] ops fp
theorem QY {ops:List Oper} {fp:List RW} (h:Ay ops fp=true):Xp ops fp:=by
 obtain⟨h1,h2⟩:=GQ (ops:=ops) (fp:=fp) ops fp [] [] [] rfl rfl rfl rfl (fun e i h=>by simp at h) h
 exact⟨fun j=>(h2 j (by simp)).1,h1,fun i j p q hi=>(h2 j (by simp)).2 i p q hi⟩
open Go.RowKit
def aS {α β:Type} (R:α→β→Prop):List α→List β→Prop
 |[],[]=>True
 |a::l,b::m=>R a b∧aS R l m
 |_,_=>False
theorem aS.length {α β:Type} {R:α→β→Prop}:∀{l:List α} {m:List β},aS R l m→l.length=m.length
 |[],[],_=>rfl
 |_::_,_::_,h=>by simp [aS.length h.2]
 |[],_::_,h=>h.elim
 |_::_,[],h=>h.elim
theorem aS.mono {α β:Type} {R S:α→β→Prop} (hRS:∀a b,R a b→S a b):∀{l:List α} {m:List β},aS R l m→aS S l m
 |[],[],_=>trivial
 |_::_,_::_,h=>⟨hRS _ _ h.1,aS.mono hRS h.2⟩
 |[],_::_,h=>h.elim
 |_::_,[],h=>h.elim
theorem aS.get {α β:Type} {R:α→β→Prop}:∀{l:List α} {m:List β} {i:Nat} {a:α},aS R l m→l[i]? =some a→∃b,m[i]? =some b∧R a b
 |[],[],_,_,_,h=>by simp at h
 |x::_,y::_,0,a,h,e=>by simp at e;subst e;exact⟨y,rfl,h.1⟩
 |_::_,_::_,i+1,a,h,e=>by simpa using aS.get h.2 (by simpa using e)
 |[],_::_,_,_,h,_=>h.elim
 |_::_,[],_,_,h,_=>h.elim
theorem aS.append {α β:Type} {R:α→β→Prop}:∀{l:List α} {m:List β} {l':List α} {m':List β},aS R l m→aS R l' m'→aS R (l++l') (m++m')
 |[],[],_,_,_,h=>h
 |_::_,_::_,_,_,h,h'=>⟨h.1,aS.append h.2 h'⟩
 |[],_::_,_,_,h,_=>h.elim
 |_::_,[],_,_,h,_=>h.elim
theorem aS.take {α β:Type} {R:α→β→Prop}:∀{l:List α} {m:List β} (n:Nat),aS R l m→aS R (l.take n) (m.take n)
 |[],[],_,_=>by simp [aS]
 |_::_,_::_,0,_=>by simp [aS]
 |_::_,_::_,n+1,h=>⟨h.1,aS.take n h.2⟩
 |[],_::_,_,h=>h.elim
 |_::_,[],_,h=>h.elim
theorem aS.drop {α β:Type} {R:α→β→Prop}:∀{l:List α} {m:List β} (n:Nat),aS R l m→aS R (l.drop n) (m.drop n)
 |[],[],_,_=>by simp [aS]
 |_::_,_::_,0,h=>h
 |_::_,_::_,n+1,h=>aS.drop n h.2
 |[],_::_,_,h=>h.elim
 |_::_,[],_,h=>h.elim
theorem aS.map {α β γ:Type} {R:α→β→Prop} {S:γ→β→Prop} (f:α→γ) (h:∀a b,R a b→S (f a) b):∀{l:List α} {m:List β},aS R l m→aS S (l.map f) m
 |[],[],_=>trivial
 |_::_,_::_,hh=>⟨h _ _ hh.1,aS.map f h hh.2⟩
 |[],_::_,h=>h.elim
 |_::_,[],h=>h.elim
def TP (I:Nat→Prop) (L len:Nat) (E:Nat→Nat→Nat→Prop) (v:Value):Prop:=
 ∃a cap,v= .slice a len cap∧len≤L∧len≤cap∧(len=0∨∃b o sz,a=some ⟨b,o,none⟩∧I b∧E b sz o)
def Sc:Value→Prop
 | .bool _| .int _ _| .string _=>True
 |_=>False
mutual
def aG (I:Nat→Prop) (w:World) (L:Nat):AV→Value→Prop
 | .bool b,v=>v= .bool b
 | .int k n,v=>v= .int k n
 | .str s,v=>v= .string s
 | .sl l,v=>TP I L l.length (fun b sz o=>cB I w L b sz l o) v
 | .any,v=>Sc v
 | .agg _,_=>False
def cB (I:Nat→Prop) (w:World) (L b sz:Nat):List AV→Nat→Prop
 |[],_=>True
 |x::xs,o=>iw I w L b sz x o∧cB I w L b sz xs (o+sz)
def iw (I:Nat→Prop) (w:World) (L b sz:Nat):AV→Nat→Prop
 | .agg l,o=>l.length=sz∧bV I w L b l o
 | .bool t,o=>sz=1∧w.cell? ⟨b,o,none⟩=some (.bool t)
 | .int k n,o=>sz=1∧w.cell? ⟨b,o,none⟩=some (.int k n)
 | .str s,o=>sz=1∧w.cell? ⟨b,o,none⟩=some (.string s)
 | .sl l,o=>sz=1∧∃v,w.cell? ⟨b,o,none⟩=some v∧TP I L l.length (fun b sz o=>cB I w L b sz l o) v
 | .any,o=>sz=1∧∃v,w.cell? ⟨b,o,none⟩=some v∧Sc v
def bV (I:Nat→Prop) (w:World) (L b:Nat):List AV→Nat→Prop
 |[],_=>True
 |c::cs,o=>(∃v,w.cell? ⟨b,o,none⟩=some v∧aG I w L c v)∧bV I w L b cs (o+1)
end
theorem mI {I:Nat→Prop} {w:World} {L b sz o:Nat} {x:AV}:iw I w L b sz x o↔x.cells.length=sz∧bV I w L b x.cells o:=by
 cases x<;>simp [iw,bV,aG,AV.cells,eq_comm]
theorem TP.mono {I I':Nat→Prop} {L len:Nat} {E E':Nat→Nat→Nat→Prop} {v:Value} (hI:∀b,I b→I' b) (hE:∀b sz o,I b→E b sz o→E' b sz o) (h:TP I L len E v):TP I' L len E' v:=by
 obtain⟨a,cap,hv,h1,h2,h3⟩:=h
 refine⟨a,cap,hv,h1,h2,h3.imp id ?_⟩
 rintro⟨b,o,sz,ha,hb,he⟩
 exact⟨b,o,sz,ha,hI b hb,hE b sz o hb he⟩
section
variable {I I':Nat→Prop} {w w':World} {L:Nat} (hI:∀b,I b→I' b) (hw:∀b o,I b→w'.cell? ⟨b,o,none⟩=w.cell? ⟨b,o,none⟩)
include hI hw
mutual
theorem aG.mono:∀(a:AV) (v:Value),aG I w L a v→aG I' w' L a v
 | .bool _,_,h=>by simpa [aG] using h
 | .int _ _,_,h=>by simpa [aG] using h
 | .str _,_,h=>by simpa [aG] using h
 | .any,_,h=>by simpa [aG] using h
 | .sl l,v,h=>by
  simp only [aG] at h ⊢
  exact h.mono hI (fun b sz o hb he=>cB.mono b sz (fun o=>hw b o hb) l o he)
 | .agg _,_,h=>by simp [aG] at h
theorem cB.mono (b sz:Nat) (hb:∀o,w'.cell? ⟨b,o,none⟩=w.cell? ⟨b,o,none⟩):∀(l:List AV) (o:Nat),cB I w L b sz l o→cB I' w' L b sz l o
 |[],_,_=>by simp [cB]
 |x::xs,o,h=>by
  simp only [cB] at h ⊢
  exact⟨iw.mono b sz hb x o h.1,cB.mono b sz hb xs (o+sz) h.2⟩
theorem iw.mono (b sz:Nat) (hb:∀o,w'.cell? ⟨b,o,none⟩=w.cell? ⟨b,o,none⟩):∀(x:AV) (o:Nat),iw I w L b sz x o→iw I' w' L b sz x o
 | .agg l,o,h=>by simp only [iw] at h ⊢;exact⟨h.1,bV.mono b hb l o h.2⟩
 | .bool _,o,h=>by simp only [iw] at h ⊢;rw [hb o];exact h
 | .int _ _,o,h=>by simp only [iw] at h ⊢;rw [hb o];exact h
 | .str _,o,h=>by simp only [iw] at h ⊢;rw [hb o];exact h
 | .any,o,h=>by simp only [iw] at h ⊢;rw [hb o];exact h
 | .sl l,o,h=>by
  simp only [iw] at h ⊢
  rw [hb o]
  obtain⟨h1,v,h2,h3⟩:=h
  exact⟨h1,v,h2,h3.mono hI (fun b sz o hb he=>cB.mono b sz (fun o=>hw b o hb) l o he)⟩
theorem bV.mono (b:Nat) (hb:∀o,w'.cell? ⟨b,o,none⟩=w.cell? ⟨b,o,none⟩):∀(l:List AV) (o:Nat),bV I w L b l o→bV I' w' L b l o
 |[],_,_=>by simp [bV]
 |c::cs,o,h=>by
  simp only [bV] at h ⊢
  rw [hb o]
  obtain⟨⟨v,h1,h2⟩,h3⟩:=h
  exact⟨⟨v,h1,aG.mono c v h2⟩,bV.mono b hb cs (o+1) h3⟩
end
end
def Turned (I:Nat→Prop) (w w':World):Prop:=∀b o v,I b→w.cell? ⟨b,o,none⟩=some v→∃v',w'.cell? ⟨b,o,none⟩=some v'∧(v'=v∨(Sc v∧Sc v'))
theorem Turned.refl (I:Nat→Prop) (w:World):Turned I w w:=fun _ _ v _ h=>⟨v,h,.inl rfl⟩
theorem Turned.same {I:Nat→Prop} {w w':World} (h:∀b o,I b→w'.cell? ⟨b,o,none⟩=w.cell? ⟨b,o,none⟩):Turned I w w':=fun b o v hb hv=>⟨v,by rw [h b o hb];exact hv,.inl rfl⟩
theorem Turned.trans {I:Nat→Prop} {w w' w'':World} (h:Turned I w w') (k:Turned I w' w''):Turned I w w'':=by
 intro b o v hb hv
 obtain⟨v1,h1,h2⟩:=h b o v hb hv
 obtain⟨v2,h3,h4⟩:=k b o v1 hb h1
 refine⟨v2,h3,?_⟩
 rcases h2 with rfl|⟨s1,s2⟩
 ·exact h4
 ·rcases h4 with rfl|⟨s3,s4⟩
  ·exact .inr ⟨s1,s2⟩
  ·exact .inr ⟨s1,s4⟩
section
variable {I I':Nat→Prop} {w w':World} {L:Nat} (hI:∀b,I b→I' b) (hw:Turned I w w')
include hI hw
mutual
theorem aG.turn:∀(a:AV) (v:Value),a.md true=true→aG I w L a v→aG I' w' L a v
 | .bool _,_,hm,_=>by simp [AV.md] at hm
 | .int _ _,_,hm,_=>by simp [AV.md] at hm
 | .str _,_,hm,_=>by simp [AV.md] at hm
 | .sl l,v,hm,h=>by
  simp only [aG] at h ⊢
  simp only [AV.md] at hm
  exact h.mono hI (fun b sz o hb he=>cB.turn b sz hb l o hm he)
 | .any,_,_,h=>by simpa [aG] using h
 | .agg _,_,_,h=>by simp [aG] at h
theorem cB.turn (b sz:Nat) (hb:I b):∀(l:List AV) (o:Nat),AV.mds true l=true→cB I w L b sz l o→cB I' w' L b sz l o
 |[],_,_,_=>by simp [cB]
 |x::xs,o,hm,h=>by
  simp only [cB] at h ⊢
  simp only [AV.mds,Bool.and_eq_true] at hm
  exact⟨iw.turn b sz hb x o hm.1 h.1,cB.turn b sz hb xs (o+sz) hm.2 h.2⟩
theorem iw.turn (b sz:Nat) (hb:I b):∀(x:AV) (o:Nat),x.md true=true→iw I w L b sz x o→iw I' w' L b sz x o
 | .agg l,o,hm,h=>by simp only [iw] at h ⊢;simp only [AV.md] at hm;exact⟨h.1,bV.turn b hb l o hm h.2⟩
 | .bool _,_,hm,_=>by simp [AV.md] at hm
 | .int _ _,_,hm,_=>by simp [AV.md] at hm
 | .str _,_,hm,_=>by simp [AV.md] at hm
 | .any,o,_,h=>by
  simp only [iw] at h ⊢
  obtain⟨h1,v,h2,h3⟩:=h
  obtain⟨v',h4,h5⟩:=hw b o v hb h2
  refine⟨h1,v',h4,?_⟩
  rcases h5 with rfl|h5
  ·exact h3
  ·exact h5.2
 | .sl l,o,hm,h=>by
  simp only [iw] at h ⊢
  simp only [AV.md] at hm
  obtain⟨h1,v,h2,h3⟩:=h
  obtain⟨v',h4,h5⟩:=hw b o v hb h2
  refine⟨h1,v',h4,?_⟩
  rcases h5 with rfl|h5
  ·exact h3.mono hI (fun b sz o hb he=>cB.turn b sz hb l o hm he)
  ·obtain⟨a,cap,rfl,_⟩:=h3
   exact h5.1.elim
theorem bV.turn (b:Nat) (hb:I b):∀(l:List AV) (o:Nat),AV.mds true l=true→bV I w L b l o→bV I' w' L b l o
 |[],_,_,_=>by simp [bV]
 |c::cs,o,hm,h=>by
  simp only [bV] at h ⊢
  simp only [AV.mds,Bool.and_eq_true] at hm
  obtain⟨⟨v,h1,h2⟩,h3⟩:=h
  obtain⟨v',h4,h5⟩:=hw b o v hb h1
  refine⟨⟨v',h4,?_⟩,bV.turn b hb cs (o+1) hm.2 h3⟩
  rcases h5 with rfl|h5
  ·exact aG.turn c v' hm.1 h2
  ·cases c with
   |sl l=>simp only [aG] at h2;obtain⟨a,cap,rfl,_⟩:=h2;exact h5.1.elim
   |any=>exact h5.2
   |agg l=>simp [aG] at h2
   |_=>simp [AV.md] at hm
end
end
theorem cB.get {I:Nat→Prop} {w:World} {L b sz:Nat}:∀{l:List AV} {o k:Nat} {x:AV},cB I w L b sz l o→l[k]? =some x→iw I w L b sz x (o+k*sz)
 |[],_,_,_,_,h=>by simp at h
 |y::ys,o,0,x,h,e=>by simp at e;subst e;simp only [cB] at h;simpa using h.1
 |y::ys,o,k+1,x,h,e=>by
  simp only [cB] at h
  have:=cB.get h.2 (show ys[k]? =some x by simpa using e)
  rw [show o+(k+1)*sz=o+sz+k*sz by rw [Nat.succ_mul];omega]
  exact this
theorem bV.get {I:Nat→Prop} {w:World} {L b:Nat}:∀{l:List AV} {o k:Nat} {x:AV},bV I w L b l o→l[k]? =some x→∃v,w.cell? ⟨b,o+k,none⟩=some v∧aG I w L x v
 |[],_,_,_,_,h=>by simp at h
 |y::ys,o,0,x,h,e=>by simp at e;subst e;simp only [bV] at h;simpa using h.1
 |y::ys,o,k+1,x,h,e=>by
  simp only [bV] at h
  have:=bV.get h.2 (show ys[k]? =some x by simpa using e)
  rw [show o+(k+1)=o+1+k by omega]
  exact this
theorem bV.drop {I:Nat→Prop} {w:World} {L b:Nat}:∀{l:List AV} {o:Nat} (k:Nat),bV I w L b l o→bV I w L b (l.drop k) (o+k)
 |[],_,_,_=>by simp [bV]
 |_::_,_,0,h=>h
 |y::ys,o,k+1,h=>by
  simp only [bV] at h
  have:=bV.drop k h.2
  rw [show o+(k+1)=o+1+k by omega]
  simpa using this
theorem bV.take {I:Nat→Prop} {w:World} {L b:Nat}:∀{l:List AV} {o:Nat} (k:Nat),bV I w L b l o→bV I w L b (l.take k) o
 |[],_,_,_=>by simp [bV]
 |_::_,_,0,_=>by simp [bV]
 |y::ys,o,k+1,h=>by
  simp only [bV,List.take_succ_cons] at h ⊢
  exact⟨h.1,bV.take k h.2⟩
theorem cB.drop {I:Nat→Prop} {w:World} {L b sz:Nat}:∀{l:List AV} {o:Nat} (k:Nat),cB I w L b sz l o→cB I w L b sz (l.drop k) (o+k*sz)
 |[],_,_,_=>by simp [cB]
 |_::_,_,0,h=>by simpa using h
 |y::ys,o,k+1,h=>by
  simp only [cB] at h
  have:=cB.drop k h.2
  rw [show o+(k+1)*sz=o+sz+k*sz by rw [Nat.succ_mul];omega]
  simpa using this
theorem cB.take {I:Nat→Prop} {w:World} {L b sz:Nat}:∀{l:List AV} {o:Nat} (k:Nat),cB I w L b sz l o→cB I w L b sz (l.take k) o
 |[],_,_,_=>by simp [cB]
 |_::_,_,0,_=>by simp [cB]
 |y::ys,o,k+1,h=>by
  simp only [cB,List.take_succ_cons] at h ⊢
  exact⟨h.1,cB.take k h.2⟩
def aI (I:Nat→Prop) (w:World) (L:Nat):AV→Value→Prop
 | .agg l,v=>∃cs:List Value,v= .agg cs.toArray∧aS (aG I w L) l cs
 | .bool b,v=>v= .bool b
 | .int k n,v=>v= .int k n
 | .str s,v=>v= .string s
 | .sl l,v=>aG I w L (.sl l) v
 | .any,v=>Sc v
theorem aI.one {I:Nat→Prop} {w:World} {L:Nat} {a:AV} {v:Value} (h:aG I w L a v):aI I w L a v:=by
 cases a with
 |agg l=>simp [aG] at h
 |_=>simpa [aI,aG] using h
theorem aI.mono {I I':Nat→Prop} {w w':World} {L:Nat} (hI:∀b,I b→I' b) (hw:∀b o,I b→w'.cell? ⟨b,o,none⟩=w.cell? ⟨b,o,none⟩) {a:AV} {v:Value} (h:aI I w L a v):aI I' w' L a v:=by
 cases a with
 |agg l=>obtain⟨cs,h1,h2⟩:=h;exact⟨cs,h1,h2.mono (aG.mono hI hw)⟩
 |sl l=>exact aG.mono hI hw (.sl l) v h
 |bool b=>exact h
 |int k n=>exact h
 |str s=>exact h
 |any=>exact h
theorem aI.turn {I I':Nat→Prop} {w w':World} {L:Nat} (hI:∀b,I b→I' b) (hw:Turned I w w') {a:AV} {v:Value} (hm:a.mdv true=true) (h:aI I w L a v):aI I' w' L a v:=by
 have one:∀(x:AV) (u:Value),x.mdc true=true→aG I w L x u→aG I' w' L x u:=by
  intro x u hm h
  cases x with
  |sl l=>exact aG.turn hI hw (.sl l) u (by simpa [AV.md,AV.mdc] using hm) h
  |agg l=>simp [aG] at h
  |_=>simpa [aG] using h
 have go:∀(l:List AV) (cs:List Value),l.all (AV.mdc true)=true→aS (aG I w L) l cs→aS (aG I' w' L) l cs:=by
  intro l
  induction l with
  |nil=>intro cs _ h;cases cs<;>exact h
  |cons x l ih=>
   intro cs hm h
   cases cs with
   |nil=>exact h
   |cons u cs=>
    simp only [List.all_cons,Bool.and_eq_true] at hm
    exact⟨one x u hm.1 h.1,ih cs hm.2 h.2⟩
 cases a with
 |agg l=>obtain⟨cs,h1,h2⟩:=h;exact⟨cs,h1,go l cs (by simpa [AV.mdv] using hm) h2⟩
 |sl l=>exact one (.sl l) v (by simpa [AV.mdv] using hm) h
 |any=>exact h
 |bool b=>exact h
 |int k n=>exact h
 |str b=>exact h
theorem XI {m:Bool} {a:AV} (h:a.md m=true):a.mdc m=true:=by cases a<;>simp_all [AV.md,AV.mdc]
theorem SH {m:Bool}:∀{l:List AV},AV.mds m l=true→l.all (AV.mdc m)=true
 |[],_=>rfl
 |x::l,h=>by simp only [AV.mds,Bool.and_eq_true] at h;simp only [List.all_cons,Bool.and_eq_true];exact⟨XI h.1,SH h.2⟩
theorem XJ {m:Bool} {a:AV} (h:a.md m=true):a.mdv m=true:=by
 cases a with
 |agg l=>simp only [AV.md] at h;simp only [AV.mdv];exact SH h
 |sl l=>simpa [AV.md,AV.mdv,AV.mdc] using h
 |_=>rfl
theorem TQ {m:Bool} {a:AV} (h:a.md m=true):AV.mds m a.cells=true:=by
 cases a<;>simp_all [AV.md,AV.mds,AV.cells]
theorem Mi {m:Bool}:∀{l:List AV} {k:Nat} {x:AV},AV.mds m l=true→l[k]? =some x→x.md m=true
 |[],_,_,_,h=>by simp at h
 |y::_,0,_,h,e=>by simp only [AV.mds,Bool.and_eq_true] at h;simp at e;subst e;exact h.1
 |_::l,k+1,_,h,e=>by simp only [AV.mds,Bool.and_eq_true] at h;exact Mi h.2 (by simpa using e)
theorem Ox {m:Bool}:∀{l:List AV} (k:Nat),AV.mds m l=true→AV.mds m (l.take k)=true
 |[],_,_=>by simp [AV.mds]
 |_::_,0,_=>by simp [AV.mds]
 |_::l,k+1,h=>by simp only [AV.mds,Bool.and_eq_true,List.take_succ_cons] at h ⊢;exact⟨h.1,Ox k h.2⟩
theorem Oy {m:Bool}:∀{l:List AV} (k:Nat),AV.mds m l=true→AV.mds m (l.drop k)=true
 |[],_,_=>by simp [AV.mds]
 |_::_,0,h=>h
 |_::l,k+1,h=>by simp only [AV.mds,Bool.and_eq_true] at h;simpa using Oy k h.2
def bq (I:Nat→Prop) (w:World) (L sz:Nat):List AV→List Value→Prop
 |[],xs=>xs= []
 |x::l,xs=>x.cells.length=sz∧∃ys zs,xs=ys++zs∧aS (aG I w L) x.cells ys∧bq I w L sz l zs
theorem bq.mono {I I':Nat→Prop} {w w':World} {L sz:Nat} (hI:∀b,I b→I' b) (hw:∀b o,I b→w'.cell? ⟨b,o,none⟩=w.cell? ⟨b,o,none⟩):
  ∀{l:List AV} {xs:List Value},bq I w L sz l xs→bq I' w' L sz l xs
 |[],_,h=>h
 |_::_,_,⟨h0,ys,zs,h1,h2,h3⟩=>⟨h0,ys,zs,h1,h2.mono (aG.mono hI hw),bq.mono hI hw h3⟩
theorem bq.length {I:Nat→Prop} {w:World} {L sz:Nat}:∀{l:List AV} {xs:List Value},bq I w L sz l xs→xs.length=l.length*sz
 |[],_,h=>by simp only [bq] at h;simp [h]
 |x::l,_,⟨h0,ys,zs,h1,h2,h3⟩=>by
  subst h1
  rw [List.length_append, ← h2.length,h0,bq.length h3,List.length_cons,Nat.succ_mul];omega
theorem bq.append {I:Nat→Prop} {w:World} {L sz:Nat}:∀{l m:List AV} {xs ys:List Value},bq I w L sz l xs→bq I w L sz m ys→bq I w L sz (l++m) (xs++ys)
 |[],m,_,ys,h,h'=>by simp only [bq] at h;simpa [h] using h'
 |x::l,m,_,ys,⟨h0,as,bs,h1,h2,h3⟩,h'=>by
  subst h1
  exact⟨h0,as,bs++ys,by simp,h2,bq.append h3 h'⟩
theorem bq.lies {I:Nat→Prop} {w:World} {L sz b:Nat}:∀{l:List AV} {xs:List Value} {o:Nat},bq I w L sz l xs→(∀j u,xs[j]? =some u→w.cell? ⟨b,o+j,none⟩=some u)→cB I w L b sz l o
 |[],_,_,_,_=>by simp [cB]
 |x::l,_,o,⟨h0,ys,zs,h1,h2,h3⟩,hc=>by
  subst h1
  simp only [cB]
  have hlen:ys.length=sz:=by rw [← h2.length,h0]
  refine⟨mI.2 ⟨h0,?_⟩,bq.lies h3 fun j u hu=>?_⟩
  ·have hc':∀j u,ys[j]? =some u→w.cell? ⟨b,o+j,none⟩=some u:=fun j u hu=>hc j u (by rw [List.getElem?_append_left];exact hu;exact (List.getElem?_eq_some_iff.1 hu).1)
   clear hc h0 hlen
   generalize x.cells=cs at h2
   clear x
   induction cs generalizing ys o with
   |nil=>simp [bV]
   |cons c cs ih=>
    cases ys with
    |nil=>exact h2.elim
    |cons y ys=>
     simp only [bV]
     refine⟨⟨y,by simpa using hc' 0 y rfl,h2.1⟩,ih _ _ (fun j u hu=>?_) h2.2⟩
     have:=hc' (j+1) u (by simpa using hu)
     rwa [show o+(j+1)=o+1+j by omega] at this
  ·have:=hc (sz+j) u (by rw [List.getElem?_append_right (by omega)];simpa [hlen] using hu)
   rwa [show o+(sz+j)=o+sz+j by omega] at this
theorem bq.get {I:Nat→Prop} {w:World} {L sz:Nat}:∀{l:List AV} {xs:List Value} {k:Nat} {x:AV},bq I w L sz l xs→l[k]? =some x→
  x.cells.length=sz∧aS (aG I w L) x.cells ((xs.drop (k*sz)).take sz)
 |[],_,_,_,_,h=>by simp at h
 |y::l,_,0,x,⟨h0,ys,zs,h1,h2,h3⟩,e=>by
  simp at e;subst e;subst h1
  have hlen:ys.length=sz:=by rw [← h2.length,h0]
  refine⟨h0,?_⟩
  simpa [← hlen] using h2
 |y::l,_,k+1,x,⟨h0,ys,zs,h1,h2,h3⟩,e=>by
  subst h1
  have hlen:ys.length=sz:=by rw [← h2.length,h0]
  have:=bq.get h3 (show l[k]? =some x by simpa using e)
  refine⟨this.1,?_⟩
  rw [show (k+1)*sz=ys.length+k*sz by rw [Nat.succ_mul,hlen];omega, ← List.drop_drop,List.drop_left]
  exact this.2
theorem bV.all2 {I:Nat→Prop} {w:World} {L b:Nat}:∀{l:List AV} {o:Nat},bV I w L b l o→∃vs,aS (aG I w L) l vs∧∀j u,vs[j]? =some u→w.cell? ⟨b,o+j,none⟩=some u
 |[],_,_=>⟨[],trivial,by simp⟩
 |c::cs,o,h=>by
  simp only [bV] at h
  obtain⟨⟨v,h1,h2⟩,h3⟩:=h
  obtain⟨vs,h4,h5⟩:=bV.all2 h3
  refine⟨v::vs,⟨h2,h4⟩,fun j u hu=>?_⟩
  cases j with
  |zero=>simp at hu;subst hu;simpa using h1
  |succ j=>
   have:=h5 j u (by simpa using hu)
   rwa [show o+(j+1)=o+1+j by omega]
theorem cB.row {I:Nat→Prop} {w:World} {L b sz:Nat}:∀{l:List AV} {o:Nat},cB I w L b sz l o→∃xs,bq I w L sz l xs∧∀j u,xs[j]? =some u→w.cell? ⟨b,o+j,none⟩=some u
 |[],_,_=>⟨[],rfl,by simp⟩
 |x::l,o,h=>by
  simp only [cB] at h
  obtain⟨h0,hx⟩:=mI.1 h.1
  obtain⟨vs,h1,h2⟩:=hx.all2
  obtain⟨xs,h3,h4⟩:=cB.row h.2
  have hlen:vs.length=sz:=by rw [← h1.length,h0]
  refine⟨vs++xs,⟨h0,vs,xs,rfl,h1,h3⟩,fun j u hu=>?_⟩
  by_cases hj:j < vs.length
  ·rw [List.getElem?_append_left hj] at hu
   exact h2 j u hu
  ·rw [List.getElem?_append_right (by omega)] at hu
   have:=h4 _ u hu
   rwa [show o+sz+(j - vs.length)=o+j by omega] at this
theorem aG.oneCell {I:Nat→Prop} {w:World} {L:Nat} {a:AV} {v:Value} (h:aG I w L a v):v.oneCell'=true:=by
 cases a with
 |agg l=>simp [aG] at h
 |sl l=>simp only [aG] at h;obtain⟨x,c,rfl,_⟩:=h;rfl
 |bool b=>simp only [aG] at h;subst h;rfl
 |int k n=>simp only [aG] at h;subst h;rfl
 |str s=>simp only [aG] at h;subst h;rfl
 |any=>simp only [aG] at h;cases v<;>first|rfl|exact h.elim
mutual
def oH (w:World):AV→Value→List Nat→Prop
 | .sl l,v,bs=>(l= []∧bs= [])∨∃b o sz len cap bs',v= .slice (some ⟨b,o,none⟩) len cap∧bs=b::bs'∧wh w b sz l o bs'
 |_,_,bs=>bs= []
def wh (w:World) (b sz:Nat):List AV→Nat→List Nat→Prop
 |[],_,bs=>bs= []
 |x::xs,o,bs=>∃b1 b2,bs=b1++b2∧qP w b sz x o b1∧wh w b sz xs (o+sz) b2
def qP (w:World) (b sz:Nat):AV→Nat→List Nat→Prop
 | .agg l,o,bs=>l.length=sz∧wG w b l o bs
 | .sl l,o,bs=>sz=1∧∃v,w.cell? ⟨b,o,none⟩=some v∧((l= []∧bs= [])∨∃b' o' sz' len cap bs',v= .slice (some ⟨b',o',none⟩) len cap∧bs=b'::bs'∧wh w b' sz' l o' bs')
 |_,_,bs=>sz=1∧bs= []
def wG (w:World) (b:Nat):List AV→Nat→List Nat→Prop
 |[],_,bs=>bs= []
 |c::cs,o,bs=>∃b1 b2,bs=b1++b2∧(∃v,w.cell? ⟨b,o,none⟩=some v∧oH w c v b1)∧wG w b cs (o+1) b2
end
def iW (w:World):List AV→List Value→List Nat→Prop
 |[],vs,bs=>vs= []∧bs= []
 |x::xs,vs,bs=>∃u us b1 b2,vs=u::us∧bs=b1++b2∧oH w x u b1∧iW w xs us b2
def dL (w:World) (sz:Nat):List AV→List Value→List Nat→Prop
 |[],xs,bs=>xs= []∧bs= []
 |x::l,xs,bs=>x.cells.length=sz∧∃ys zs b1 b2,xs=ys++zs∧bs=b1++b2∧iW w x.cells ys b1∧dL w sz l zs b2
theorem UL {w:World} {b sz o:Nat} {x:AV} {bs:List Nat} (hc:∀k,k < sz→∃v,w.cell? ⟨b,o+k,none⟩=some v):qP w b sz x o bs↔x.cells.length=sz∧wG w b x.cells o bs:=by
 cases x with
 |agg l=>simp [qP,AV.cells]
 |sl l=>
  simp only [qP,AV.cells,List.length_cons,List.length_nil,wG,oH]
  constructor
  ·rintro⟨rfl,v,h1,h2⟩
   exact⟨rfl,bs,[],by simp,⟨v,h1,h2⟩,rfl⟩
  ·rintro⟨rfl,b1,b2,rfl,⟨v,h1,h2⟩,rfl⟩
   exact⟨rfl,v,h1,by simpa using h2⟩
 |_=>
  simp only [qP,AV.cells,List.length_cons,List.length_nil,wG,oH]
  constructor
  ·rintro⟨rfl,rfl⟩
   obtain⟨v,hv⟩:=hc 0 (by omega)
   exact⟨rfl,[],[],rfl,⟨v,by simpa using hv,rfl⟩,rfl⟩
  ·rintro⟨rfl,b1,b2,rfl,⟨v,_,rfl⟩,rfl⟩
   exact⟨rfl,rfl⟩
section
variable {w w':World}
mutual
theorem oH.mono:∀(a:AV) (v:Value) (bs:List Nat),(∀b∈bs,∀o,w'.cell? ⟨b,o,none⟩=w.cell? ⟨b,o,none⟩)→oH w a v bs→oH w' a v bs
 | .sl l,v,bs,hw,h=>by
  simp only [oH] at h ⊢
  refine h.imp id ?_
  rintro⟨b,o,sz,len,cap,bs',rfl,rfl,h3⟩
  exact⟨b,o,sz,len,cap,bs',rfl,rfl,wh.mono b sz l o bs' (hw b (by simp)) (fun k hk=>hw k (by simp [hk])) h3⟩
 | .bool _,_,_,_,h=>by simpa [oH] using h
 | .int _ _,_,_,_,h=>by simpa [oH] using h
 | .str _,_,_,_,h=>by simpa [oH] using h
 | .any,_,_,_,h=>by simpa [oH] using h
 | .agg _,_,_,_,h=>by simpa [oH] using h
theorem wh.mono (b sz:Nat):∀(l:List AV) (o:Nat) (bs:List Nat),(∀o,w'.cell? ⟨b,o,none⟩=w.cell? ⟨b,o,none⟩)→(∀b∈bs,∀o,w'.cell? ⟨b,o,none⟩=w.cell? ⟨b,o,none⟩)→wh w b sz l o bs→wh w' b sz l o bs
 |[],_,_,_,_,h=>by simpa [wh] using h
 |x::xs,o,bs,hb,hw,h=>by
  simp only [wh] at h ⊢
  obtain⟨b1,b2,rfl,h1,h2⟩:=h
  exact⟨b1,b2,rfl,qP.mono b sz x o b1 hb (fun k hk=>hw k (by simp [hk])) h1,wh.mono b sz xs (o+sz) b2 hb (fun k hk=>hw k (by simp [hk])) h2⟩
theorem qP.mono (b sz:Nat):∀(x:AV) (o:Nat) (bs:List Nat),(∀o,w'.cell? ⟨b,o,none⟩=w.cell? ⟨b,o,none⟩)→(∀b∈bs,∀o,w'.cell? ⟨b,o,none⟩=w.cell? ⟨b,o,none⟩)→qP w b sz x o bs→qP w' b sz x o bs
 | .agg l,o,bs,hb,hw,h=>by simp only [qP] at h ⊢;exact⟨h.1,wG.mono b l o bs hb hw h.2⟩
 | .sl l,o,bs,hb,hw,h=>by
  simp only [qP] at h ⊢
  obtain⟨h1,v,h2,h3⟩:=h
  refine⟨h1,v,by rw [hb o];exact h2,h3.imp id ?_⟩
  rintro⟨b',o',sz',len,cap,bs',rfl,rfl,h4⟩
  exact⟨b',o',sz',len,cap,bs',rfl,rfl,wh.mono b' sz' l o' bs' (hw b' (by simp)) (fun k hk=>hw k (by simp [hk])) h4⟩
 | .bool _,_,_,_,_,h=>by simpa [qP] using h
 | .int _ _,_,_,_,_,h=>by simpa [qP] using h
 | .str _,_,_,_,_,h=>by simpa [qP] using h
 | .any,_,_,_,_,h=>by simpa [qP] using h
theorem wG.mono (b:Nat):∀(l:List AV) (o:Nat) (bs:List Nat),(∀o,w'.cell? ⟨b,o,none⟩=w.cell? ⟨b,o,none⟩)→(∀b∈bs,∀o,w'.cell? ⟨b,o,none⟩=w.cell? ⟨b,o,none⟩)→wG w b l o bs→wG w' b l o bs
 |[],_,_,_,_,h=>by simpa [wG] using h
 |c::cs,o,bs,hb,hw,h=>by
  simp only [wG] at h ⊢
  obtain⟨b1,b2,rfl,⟨v,h1,h2⟩,h3⟩:=h
  exact⟨b1,b2,rfl,⟨v,by rw [hb o];exact h1,oH.mono c v b1 (fun k hk=>hw k (by simp [hk])) h2⟩,wG.mono b cs (o+1) b2 hb (fun k hk=>hw k (by simp [hk])) h3⟩
end
theorem iW.mono:∀{l:List AV} {vs:List Value} {bs:List Nat},(∀b∈bs,∀o,w'.cell? ⟨b,o,none⟩=w.cell? ⟨b,o,none⟩)→iW w l vs bs→iW w' l vs bs
 |[],_,_,_,h=>h
 |x::xs,_,_,hw,⟨u,us,b1,b2,e1,e2,h1,h2⟩=>by
  subst e2
  exact⟨u,us,b1,b2,e1,rfl,oH.mono x u b1 (fun k hk=>hw k (by simp [hk])) h1,iW.mono (fun k hk=>hw k (by simp [hk])) h2⟩
theorem dL.mono {sz:Nat}:∀{l:List AV} {xs:List Value} {bs:List Nat},(∀b∈bs,∀o,w'.cell? ⟨b,o,none⟩=w.cell? ⟨b,o,none⟩)→dL w sz l xs bs→dL w' sz l xs bs
 |[],_,_,_,h=>h
 |x::l,_,_,hw,⟨h0,ys,zs,b1,b2,e1,e2,h1,h2⟩=>by
  subst e2
  exact⟨h0,ys,zs,b1,b2,e1,rfl,iW.mono (fun k hk=>hw k (by simp [hk])) h1,dL.mono (fun k hk=>hw k (by simp [hk])) h2⟩
end
theorem iW.length {w:World}:∀{l:List AV} {vs:List Value} {bs:List Nat},iW w l vs bs→vs.length=l.length
 |[],_,_,h=>by simp [h.1]
 |_::_,_,_,⟨u,us,b1,b2,e1,_,_,h⟩=>by subst e1;simp [iW.length h]
theorem iW.append {w:World}:∀{l m:List AV} {vs us:List Value} {b1 b2:List Nat},iW w l vs b1→iW w m us b2→iW w (l++m) (vs++us) (b1++b2)
 |[],_,_,_,_,_,h,k=>by obtain⟨rfl,rfl⟩:=h;simpa using k
 |x::l,m,_,us,_,b2,⟨u,us',c1,c2,e1,e2,h1,h2⟩,k=>by
  subst e1;subst e2
  exact⟨u,us'++us,c1,c2++b2,by simp,by simp,h1,iW.append h2 k⟩
theorem dL.append {w:World} {sz:Nat}:∀{l m:List AV} {xs ys:List Value} {b1 b2:List Nat},dL w sz l xs b1→dL w sz m ys b2→dL w sz (l++m) (xs++ys) (b1++b2)
 |[],_,_,_,_,_,h,k=>by obtain⟨rfl,rfl⟩:=h;simpa using k
 |x::l,m,_,ys,_,b2,⟨h0,as,cs,c1,c2,e1,e2,h1,h2⟩,k=>by
  subst e1;subst e2
  exact⟨h0,as,cs++ys,c1,c2++b2,by simp,by simp,h1,dL.append h2 k⟩
theorem KJ {w:World} {a:AV} {v:Value} (h:a.flat=true):oH w a v []:=by
 cases a<;>simp_all [oH,AV.flat]
theorem xZ {w:World}:∀{l:List AV} {vs:List Value},AV.EG l=true→vs.length=l.length→iW w l vs []
 |[],vs,_,h=>⟨List.eq_nil_of_length_eq_zero (by simpa using h),rfl⟩
 |x::l,[],_,h=>by simp at h
 |x::l,v::vs,h,k=>by
  simp only [AV.EG,Bool.and_eq_true] at h
  exact⟨v,vs,[],[],rfl,rfl,KJ h.1,xZ h.2 (by simpa using k)⟩
theorem uz:∀{z:List ZC} {l:List AV},EH z=true→bO z l=true→AV.EG l=true
 |[],[],_,_=>rfl
 |[],_::_,_,h=>by simp [bO] at h
 |_::_,[],_,h=>by simp [bO] at h
 |z::zs,x::xs,h,k=>by
  simp only [bO,Bool.and_eq_true] at k
  simp only [AV.EG,Bool.and_eq_true]
  have hz:EH zs=true:=by cases z<;>simp_all [EH]
  refine⟨?_,uz hz k.2⟩
  cases z<;>cases x<;>simp_all [EH,ZC.fit,AV.flat]
theorem lZ:∀{z:List ZC} {l:List AV},bO z l=true→l.length=z.length
 |[],[],_=>rfl
 |[],_::_,h=>by simp [bO] at h
 |_::_,[],h=>by simp [bO] at h
 |z::zs,x::xs,h=>by simp only [bO,Bool.and_eq_true] at h;simp [lZ h.2]
theorem nR {I:Nat→Prop} {w:World} {L sz:Nat} {z:List ZC} (hz:EH z=true):∀{l:List AV} {xs:List Value},(∀x∈l,bO z x.cells=true)→bq I w L sz l xs→dL w sz l xs []
 |[],_,_,h=>⟨h,rfl⟩
 |x::l,_,hf,⟨h0,ys,zs,e,h1,h2⟩=>by
  subst e
  exact⟨h0,ys,zs,[],[],rfl,rfl,xZ (uz hz (hf x (by simp))) h1.length.symm,nR hz (fun y hy=>hf y (by simp [hy])) h2⟩
theorem iW.lies {w:World} {b:Nat}:∀{l:List AV} {vs:List Value} {o:Nat} {bs:List Nat},iW w l vs bs→(∀j u,vs[j]? =some u→w.cell? ⟨b,o+j,none⟩=some u)→wG w b l o bs
 |[],_,_,_,h,_=>by simp only [wG];exact h.2
 |x::xs,_,o,_,⟨u,us,b1,b2,e1,e2,h1,h2⟩,hc=>by
  subst e1;subst e2
  simp only [wG]
  refine⟨b1,b2,rfl,⟨u,by simpa using hc 0 u rfl,h1⟩,iW.lies h2 fun j v hj=>?_⟩
  have:=hc (j+1) v (by simpa using hj)
  rwa [show o+(j+1)=o+1+j by omega] at this
theorem dL.lies {w:World} {sz b:Nat}:∀{l:List AV} {xs:List Value} {o:Nat} {bs:List Nat},dL w sz l xs bs→(∀j u,xs[j]? =some u→w.cell? ⟨b,o+j,none⟩=some u)→wh w b sz l o bs
 |[],_,_,_,h,_=>by simp only [wh];exact h.2
 |x::l,_,o,_,⟨h0,ys,zs,b1,b2,e1,e2,h1,h2⟩,hc=>by
  subst e1;subst e2
  simp only [wh]
  have hlen:ys.length=sz:=by rw [h1.length,h0]
  have hy:∀j u,ys[j]? =some u→w.cell? ⟨b,o+j,none⟩=some u:=fun j u hu=>hc j u (by rw [List.getElem?_append_left];exact hu;exact (List.getElem?_eq_some_iff.1 hu).1)
  refine⟨b1,b2,rfl,(UL fun k hk=>?_).2 ⟨h0,h1.lies hy⟩,dL.lies h2 fun j u hu=>?_⟩
  ·exact⟨ys[k]'(by omega),hy k _ (by simp)⟩
  ·have:=hc (sz+j) u (by rw [List.getElem?_append_right (by omega)];simpa [hlen] using hu)
   rwa [show o+(sz+j)=o+sz+j by omega] at this
theorem iW.get {w:World}:∀{l:List AV} {vs:List Value} {bs:List Nat} {k:Nat} {x:AV} {u:Value},iW w l vs bs→l[k]? =some x→vs[k]? =some u→∃b1 b2 b3,bs=b1++b2++b3∧iW w (l.take k) (vs.take k) b1∧oH w x u b2∧iW w (l.drop (k+1)) (vs.drop (k+1)) b3
 |[],_,_,_,_,_,_,h,_=>by simp at h
 |y::l,_,_,0,x,u,⟨v,us,b1,b2,e1,e2,h1,h2⟩,hx,hu=>by
  subst e1;subst e2
  simp at hx hu;subst hx;subst hu
  exact⟨[],b1,b2,by simp,⟨rfl,rfl⟩,h1,by simpa using h2⟩
 |y::l,_,_,k+1,x,u,⟨v,us,b1,b2,e1,e2,h1,h2⟩,hx,hu=>by
  subst e1;subst e2
  obtain⟨c1,c2,c3,rfl,g1,g2,g3⟩:=iW.get h2 (by simpa using hx) (by simpa using hu)
  exact⟨b1++c1,c2,c3,by simp,⟨v,_,b1,c1,rfl,rfl,h1,g1⟩,g2,by simpa using g3⟩
theorem iW.split {w:World}:∀(k:Nat) {l:List AV} {vs:List Value} {bs:List Nat},iW w l vs bs→∃b1 b2,bs=b1++b2∧iW w (l.take k) (vs.take k) b1∧iW w (l.drop k) (vs.drop k) b2
 |0,l,vs,bs,h=>⟨[],bs,rfl,⟨by simp,rfl⟩,by simpa using h⟩
 |k+1,[],_,_,h=>by obtain⟨rfl,rfl⟩:=h;exact⟨[],[],rfl,⟨by simp,rfl⟩,by simpa using ⟨rfl,rfl⟩⟩
 |k+1,y::l,_,_,⟨v,us,b1,b2,e1,e2,h1,h2⟩=>by
  subst e1;subst e2
  obtain⟨c1,c2,rfl,g1,g2⟩:=iW.split k h2
  exact⟨b1++c1,c2,by simp,⟨v,_,b1,c1,rfl,rfl,h1,g1⟩,by simpa using g2⟩
theorem dL.split {w:World} {sz:Nat}:∀(k:Nat) {l:List AV} {xs:List Value} {bs:List Nat},dL w sz l xs bs→∃b1 b2,bs=b1++b2∧dL w sz (l.take k) (xs.take (k*sz)) b1∧dL w sz (l.drop k) (xs.drop (k*sz)) b2
 |0,l,xs,bs,h=>⟨[],bs,rfl,⟨by simp,rfl⟩,by simpa using h⟩
 |k+1,[],_,_,h=>by obtain⟨rfl,rfl⟩:=h;exact⟨[],[],rfl,⟨by simp,rfl⟩,by simpa using ⟨rfl,rfl⟩⟩
 |k+1,x::l,_,_,⟨h0,ys,zs,b1,b2,e1,e2,h1,h2⟩=>by
  subst e1;subst e2
  have hlen:ys.length=sz:=by rw [h1.length,h0]
  obtain⟨c1,c2,rfl,g1,g2⟩:=dL.split k h2
  refine⟨b1++c1,c2,by simp,⟨h0,ys,zs.take (k*sz),b1,c1,?_,rfl,h1,g1⟩,?_⟩
  ·rw [show (k+1)*sz=ys.length+k*sz by rw [Nat.succ_mul,hlen];omega,List.take_length_add_append]
  ·rw [show (k+1)*sz=ys.length+k*sz by rw [Nat.succ_mul,hlen];omega,List.drop_length_add_append,List.drop_succ_cons];exact g2
end Go.Proofs.YtjfnojijdggfhaaGreat.Abs
namespace Go.Proofs.YtjfnojijdggfhaaGreat.Abs
open Go.RowKit
structure Cx where
 β:Nat→Option Nat
 ω:Nat→Option Value
 I:Nat→Prop
 J:Nat→Prop
 O:Nat→Prop
 mt:Bool
 base:Nat
 who:Nat→Option (Bool×Nat)
 lin:Nat→Option Nat
 As:Nat→Nat→Option Value
def ZC.val:ZC→Value
 | .bool=>.bool false
 | .int k=>.int k 0
 | .str=>.string ⟨#[]⟩
 | .aj=>.slice none 0 0
def QZ:TypeDesc→Bool
 | .struct _| .array _ _=>false
 |_=>true
structure jR (P:Program) (T:Nat→Ty) (ty:Ty) (t:Nat):Prop where
 info:∃i z,P.info? t=some i∧i.size=ty.size∧i.bytes=ty.bytes∧i.zero=some z∧z.cells.toList=ty.zero.map ZC.val
 pos:0 < ty.size
 one:ty.agg=false→ty.size=1
 Az:ty.zero.length=ty.size
 small:ty.bytes≤512
 YL:ty.eq=true→P.stoodInHeld t=false∧P.eqGuardType P.depth t=false∧∀f∈P.fieldsOf t,f.name≠ "_"
 und:∃d,P.underlying t=some d∧(match ty.kind with
  | .bool=>d= .bool
  | .int k=>d= .int k
  | .str=>d= .string
  | .slice E=>d= .slice E
  | .struct fs=>∃fields:Array Field,d= .struct fields∧fields.toList.map (fun f=>(f.offset,f.type))=fs∧∀p∈fs,(T p.2).good=true∧p.1+(T p.2).size≤ty.size
  | .fn=>QZ d=true
  | .other=>False)
def bH (P:Program) (T:Nat→Ty):Prop:=∀t,(T t).good=true→jR P T (T t) t
def qQ (I J:Nat→Prop) (w:World) (L:Nat) (a:AV) (v:Value):Prop:=∃b o,v= .pointer (some ⟨b,o,none⟩)∧(I b∨J b)∧bV I w L b a.cells o
def gX (vs:List Value):Prop:=∀v∈vs,v.oneCell'=true
def Cx.M (c:Cx) (b:Nat):Prop:=c.O b∧c.mt=true
def qR (w:World) (b:Nat):Prop:=∀o,w.frozen? ⟨b,o,none⟩=false
theorem qR.same {w w':World} {b:Nat} (h:qR w b) (e:w'.heap[b]? =w.heap[b]?):qR w' b:=fun o=>by
 rw [World.frozen?_of_block (w:=w) (w':=w') (a:=⟨b,o,none⟩) e];exact h o
structure Turn (M:Nat→Prop) (w w':World) (B:Nat→Prop:=fun _=>False):Prop where
 os:w'.os=w.os
 tape:w'.tape=w.tape
 output:w'.output=w.output
 size:w.heap.size≤w'.heap.size
 wH:∀k,k < w.heap.size→¬ M k→¬ B k→w'.heap[k]? =w.heap[k]?
 cell:Turned M w w'
 thaw:∀b,M b→qR w b→qR w' b
 drawn:w.drawn≤w'.drawn
theorem Turn.block {M:Nat→Prop} {w w':World} (h:Turn M w w'):∀k,k < w.heap.size→¬ M k→w'.heap[k]? =w.heap[k]? :=fun k hk hm=>h.wH k hk hm id
theorem Turn.refl (M:Nat→Prop) (w:World) {B:Nat→Prop}:Turn M w w B:=⟨rfl,rfl,rfl,Nat.le_refl _,fun _ _ _ _=>rfl,Turned.refl _ _,fun _ _ h=>h,Nat.le_refl _⟩
theorem Turn.toB {M B B':Nat→Prop} {w w':World} (h:Turn M w w' B) (hB:∀b,B b→B' b):Turn M w w' B':=⟨h.os,h.tape,h.output,h.size,fun k hk hm hb=>h.wH k hk hm fun h=>hb (hB k h),h.cell,h.thaw,h.drawn⟩
theorem Turn.all {M B:Nat→Prop} {w w':World} (h:Turn M w w'):Turn M w w' B:=h.toB fun _ h=>h.elim
theorem Turn.trans {M B:Nat→Prop} {a b c:World} (h:Turn M a b B) (k:Turn M b c B):Turn M a c B:=
 ⟨k.os.trans h.os,k.tape.trans h.tape,k.output.trans h.output,Nat.le_trans h.size k.size,fun i hi hm hb=>(k.wH i (Nat.lt_of_lt_of_le hi h.size) hm hb).trans (h.wH i hi hm hb),h.cell.trans k.cell,fun b hm ht=>k.thaw b hm (h.thaw b hm ht),Nat.le_trans h.drawn k.drawn⟩
theorem Turn.keep {M B:Nat→Prop} {a b c:World} (h:Turn M a b B) (hm:∀k,M k→k < a.heap.size) (k:Below a.heap.size b c) (hd:b.drawn≤c.drawn):Turn M a c B:=
 ⟨k.os.trans h.os,k.tape.trans h.tape,k.output.trans h.output,Nat.le_trans h.size k.size,fun i hi hm hb=>(k.block i hi).trans (h.wH i hi hm hb),h.cell.trans (Turned.same fun b _ hb=>k.cell (hm b hb)),fun b hb ht=>(h.thaw b hb ht).same (k.block b (hm b hb)),Nat.le_trans h.drawn hd⟩
theorem Turn.of {M B:Nat→Prop} {w w':World} (hm:∀k,M k→k < w.heap.size) (k:Below w.heap.size w w') (hd:w.drawn≤w'.drawn):Turn M w w' B:=(Turn.refl M w).keep hm k hd
theorem Turn.quiet {O:Nat→Prop} {w w':World} (h:Turn (fun b=>O b∧false=true) w w'):Turn (fun _=>False) w w':=
 ⟨h.os,h.tape,h.output,h.size,fun k hk _ _=>h.block k hk (fun hm=>by cases hm.2),fun _ _ _ hb=>hb.elim,fun _ hb=>hb.elim,h.drawn⟩
abbrev Quiet (w w':World):Prop:=Turn (fun _=>False) w w'
theorem Turn.ofQ {M B:Nat→Prop} {w w':World} (hm:∀k,M k→k < w.heap.size) (q:Quiet w w'):Turn M w w' B:=Turn.of hm ⟨q.os,q.tape,q.output,q.size,fun k hk=>q.block k hk id⟩ q.drawn
theorem Quiet.refl (w:World):Quiet w w:=Turn.refl _ w
theorem Quiet.alloc (w:World) (o:Obj):Quiet w (w.alloc o):=Turn.of (fun _ h=>h.elim) ((Below.refl _ _).alloc (Nat.le_refl _) _) (Nat.le_refl _)
theorem Turn.cell? {M:Nat→Prop} {w w':World} (h:Turn M w w') {b o:Nat} (hb:b < w.heap.size) (hm:¬ M b):w'.cell? ⟨b,o,none⟩=w.cell? ⟨b,o,none⟩:=World.cell?_of_block (h.block b hb hm)
theorem Turn.below {w w':World} (h:Turn (fun _=>False) w w'):Below w.heap.size w w':=⟨h.os,h.tape,h.output,h.size,fun k hk=>h.block k hk id⟩
section
variable (T:Nat→Ty) (c:Cx) (tok:Nat→Option Tok) (mem:Nat→Option (Nat×List SV)) (w:World) (L:Nat)
mutual
def ah:SV→Value→Prop
 | .undef,_=>True
 | .gone,v=>v=undef
 | .data a,v=>aI c.I w L a v
 | .aj,v=>v= .slice none 0 0
 | .fr l,v=>aI c.I w L (.sl l) v∧∀b,v.ownBlock=some b→c.base≤b
 | .own τ g,v=>∃t,tok τ=some t∧g≤t.gen∧(g=t.gen→c.ω τ=some v)
 | .jy τ g k off,v=>∃t,tok τ=some t∧g≤t.gen∧(g=t.gen→∃b n cap,c.ω τ=some (.slice (some ⟨b,0,none⟩) n cap)∧v= .pointer (some ⟨b,k*(T t.E).size+off,none⟩))
 | .box d g off,v=>∃g' cells,mem d=some (g',cells)∧g≤g'∧(g=g'→∃b,c.β d=some b∧v= .pointer (some ⟨b,off,none⟩))
 | .bsl d g n,v=>∃g' cells,mem d=some (g',cells)∧g≤g'∧(g=g'→∃b,c.β d=some b∧v= .slice (some ⟨b,0,none⟩) n n)
 | .ref a,v=>qQ c.I c.J w L a v
 | .old a,v=>a.mdv c.mt=true∧aI c.O w L a v
 | .dI a,v=>a.md c.mt=true∧∃b o,v= .pointer (some ⟨b,o,none⟩)∧c.O b∧bV c.O w L b a.cells o
 | .fn f caps,v=>∃vs:List Value,v= .func (.func f) #[] vs.toArray∧ak caps vs
 | .fnr f caps,v=>∃vs:List Value,v= .func (.func f) #[] vs.toArray∧aS (qQ c.I c.J w L) caps vs
 | .argv i j a,v=>aI c.I w L a v∧c.As i j=some v∧v.oneCell'=true
 | .iF l,v=>∃vs:List Value,v= .agg vs.toArray∧ak l vs∧gX vs
 | .tup l,v=>∃vs:List Value,v= .tuple vs.toArray∧ak l vs
def ak:List SV→List Value→Prop
 |[],vs=>vs= []
 |x::xs,vs=>∃u us,vs=u::us∧ah x u∧ak xs us
end
end
structure Ext (L:Nat) (c:Cx) (tok:Nat→Option Tok) (mem:Nat→Option (Nat×List SV)) (w:World) (c':Cx) (sU:Nat→Option Tok) (mem':Nat→Option (Nat×List SV)) (w':World):Prop where
 hI:∀b,c.I b→c'.I b
 hJ:∀b,c.J b→c'.J b
 hmt:c'.mt=c.mt
 hbase:c'.base=c.base
 hAs:c'.As=c.As
 hO:c'.O=c.O
 hw:∀b o,c.I b∨c.J b→w'.cell? ⟨b,o,none⟩=w.cell? ⟨b,o,none⟩
 hf:c.mt=false→∀b o,c.O b→w'.cell? ⟨b,o,none⟩=w.cell? ⟨b,o,none⟩
 ht:c.mt=true→Turned c.O w w'
 TR:∀τ t,tok τ=some t→∃t',sU τ=some t'∧t.gen≤t'.gen∧(t.gen=t'.gen→c'.ω τ=c.ω τ∧t'.E=t.E)
 hmem:∀d g cells,mem d=some (g,cells)→∃g' cells',mem' d=some (g',cells')∧g≤g'∧(g=g'→c'.β d=c.β d)
theorem Ext.hwI {L:Nat} {c:Cx} {tok:Nat→Option Tok} {mem:Nat→Option (Nat×List SV)} {w:World} {c':Cx} {sU:Nat→Option Tok} {mem':Nat→Option (Nat×List SV)} {w':World} (e:Ext L c tok mem w c' sU mem' w'):
  ∀b o,c.I b→w'.cell? ⟨b,o,none⟩=w.cell? ⟨b,o,none⟩:=fun b o h=>e.hw b o (.inl h)
theorem qQ.ext {L:Nat} {I I' J J':Nat→Prop} {w w':World} (hI:∀b,I b→I' b) (hJ:∀b,J b→J' b∨I' b) (hw:∀b o,I b∨J b→w'.cell? ⟨b,o,none⟩=w.cell? ⟨b,o,none⟩) {a:AV} {v:Value} (h:qQ I J w L a v):qQ I' J' w' L a v:=by
 obtain⟨b,o,h1,h2,h3⟩:=h
 exact⟨b,o,h1,h2.elim (fun h=>.inl (hI b h)) (fun h=>(hJ b h).symm),bV.mono hI (fun b o h=>hw b o (.inl h)) b (fun o=>hw b o h2) _ _ h3⟩
theorem Ext.hM {L:Nat} {c:Cx} {tok:Nat→Option Tok} {mem:Nat→Option (Nat×List SV)} {w:World} {c':Cx} {sU:Nat→Option Tok} {mem':Nat→Option (Nat×List SV)} {w':World} (e:Ext L c tok mem w c' sU mem' w'):
  c'.M=c.M:=by unfold Cx.M;rw [e.hO,e.hmt]
theorem Ext.oZ {L:Nat} {c:Cx} {tok:Nat→Option Tok} {mem:Nat→Option (Nat×List SV)} {w:World} {c':Cx} {sU:Nat→Option Tok} {mem':Nat→Option (Nat×List SV)} {w':World} (e:Ext L c tok mem w c' sU mem' w')
  {a:AV} {v:Value} (hm:a.mdv c.mt=true) (h:aI c.O w L a v):aI c'.O w' L a v:=by
 cases hc:c.mt with
 |false=>exact (e.hO ▸ h.mono (fun _ h=>h) (e.hf hc))
 |true=>rw [hc] at hm;exact (e.hO ▸ h.turn (fun _ h=>h) (e.ht hc) hm)
theorem Ext.ZM {L:Nat} {c:Cx} {tok:Nat→Option Tok} {mem:Nat→Option (Nat×List SV)} {w:World} {c':Cx} {sU:Nat→Option Tok} {mem':Nat→Option (Nat×List SV)} {w':World} (e:Ext L c tok mem w c' sU mem' w')
  {l:List AV} {b o:Nat} (hm:AV.mds c.mt l=true) (hb:c.O b) (h:bV c.O w L b l o):bV c'.O w' L b l o:=by
 cases hc:c.mt with
 |false=>exact (e.hO ▸ bV.mono (fun _ h=>h) (e.hf hc) b (fun o=>e.hf hc b o hb) _ _ h)
 |true=>rw [hc] at hm;exact (e.hO ▸ bV.turn (fun _ h=>h) (e.ht hc) b hb _ _ hm h)
section
variable {T:Nat→Ty} {L:Nat} {c c':Cx} {tok sU:Nat→Option Tok} {mem mem':Nat→Option (Nat×List SV)} {w w':World}
mutual
theorem ah.ext (e:Ext L c tok mem w c' sU mem' w'):∀(x:SV) (v:Value),ah T c tok mem w L x v→ah T c' sU mem' w' L x v
 | .undef,_,_=>by simp [ah]
 | .gone,_,h=>by simpa [ah] using h
 | .data a,v,h=>by simp only [ah] at h ⊢;exact h.mono e.hI e.hwI
 | .aj,v,h=>by simpa [ah] using h
 | .fr l,v,h=>by simp only [ah] at h ⊢;rw [e.hbase];exact⟨h.1.mono e.hI e.hwI,h.2⟩
 | .argv i j a,v,h=>by simp only [ah] at h ⊢;rw [e.hAs];exact⟨h.1.mono e.hI e.hwI,h.2⟩
 | .own τ g,v,h=>by
  simp only [ah] at h ⊢
  obtain⟨t,h1,h2,h3⟩:=h
  obtain⟨t',h4,h5,h6⟩:=e.TR τ t h1
  refine⟨t',h4,by omega,fun hg=>?_⟩
  rw [(h6 (by omega)).1];exact h3 (by omega)
 | .jy τ g k off,v,h=>by
  simp only [ah] at h ⊢
  obtain⟨t,h1,h2,h3⟩:=h
  obtain⟨t',h4,h5,h6⟩:=e.TR τ t h1
  refine⟨t',h4,by omega,fun hg=>?_⟩
  rw [(h6 (by omega)).1,(h6 (by omega)).2];exact h3 (by omega)
 | .box d g off,v,h=>by
  simp only [ah] at h ⊢
  obtain⟨g1,cells,h1,h2,h3⟩:=h
  obtain⟨g2,cells',h4,h5,h6⟩:=e.hmem d g1 cells h1
  refine⟨g2,cells',h4,by omega,fun hg=>?_⟩
  rw [h6 (by omega)];exact h3 (by omega)
 | .bsl d g n,v,h=>by
  simp only [ah] at h ⊢
  obtain⟨g1,cells,h1,h2,h3⟩:=h
  obtain⟨g2,cells',h4,h5,h6⟩:=e.hmem d g1 cells h1
  refine⟨g2,cells',h4,by omega,fun hg=>?_⟩
  rw [h6 (by omega)];exact h3 (by omega)
 | .ref a,v,h=>by simp only [ah] at h ⊢;exact h.ext e.hI (fun b h=>.inl (e.hJ b h)) e.hw
 | .old a,v,h=>by simp only [ah] at h ⊢;rw [e.hmt];exact⟨h.1,e.oZ h.1 h.2⟩
 | .dI a,v,h=>by
  simp only [ah] at h ⊢
  obtain⟨h0,b,o,h1,h2,h3⟩:=h
  rw [e.hmt]
  exact⟨h0,b,o,h1,e.hO ▸ h2,e.ZM (TQ h0) h2 h3⟩
 | .fn f caps,v,h=>by
  simp only [ah] at h ⊢
  obtain⟨vs,h1,h2⟩:=h
  exact⟨vs,h1,ak.ext e caps vs h2⟩
 | .fnr f caps,v,h=>by
  simp only [ah] at h ⊢
  obtain⟨vs,h1,h2⟩:=h
  exact⟨vs,h1,h2.mono fun a u hu=>qQ.ext e.hI (fun b h=>.inl (e.hJ b h)) e.hw hu⟩
 | .iF l,v,h=>by
  simp only [ah] at h ⊢
  obtain⟨vs,h1,h2,h3⟩:=h
  exact⟨vs,h1,ak.ext e l vs h2,h3⟩
 | .tup l,v,h=>by
  simp only [ah] at h ⊢
  obtain⟨vs,h1,h2⟩:=h
  exact⟨vs,h1,ak.ext e l vs h2⟩
theorem ak.ext (e:Ext L c tok mem w c' sU mem' w'):∀(l:List SV) (vs:List Value),ak T c tok mem w L l vs→ak T c' sU mem' w' L l vs
 |[],_,h=>by simpa [ak] using h
 |x::xs,vs,h=>by
  simp only [ak] at h ⊢
  obtain⟨u,us,h1,h2,h3⟩:=h
  exact⟨u,us,h1,ah.ext e x u h2,ak.ext e xs us h3⟩
end
theorem ak.all2:∀{l:List SV} {vs:List Value},ak T c tok mem w L l vs↔aS (ah T c tok mem w L) l vs
 |[],[]=>by simp [ak,aS]
 |[],_::_=>by simp [ak,aS]
 |_::_,[]=>by simp [ak,aS]
 |x::xs,u::us=>by
  simp only [ak,aS]
  constructor
  ·rintro⟨u',us',h1,h2,h3⟩
   cases h1
   exact⟨h2,ak.all2.1 h3⟩
  ·rintro⟨h2,h3⟩
   exact⟨u,us,rfl,h2,ak.all2.2 h3⟩
end
def pY (base:Nat) (c:Cx) (w:World) (τ sz:Nat) (q:Bool) (l:List AV) (xs:List Value):Prop:=
 q=true→∃bs,dL w sz l xs bs∧bs.Nodup∧∀b∈bs,c.I b∧c.lin b=some τ∧base≤b
def YM (T:Nat→Ty) (L base:Nat) (c:Cx) (w:World) (τ:Nat) (t:Tok) (v:Value):Prop:=
 t.l.length≤L∧(T t.E).good=true∧∃xs,w.ownsRow base t.E (T t.E).size v t.l.length xs∧bq c.I w L (T t.E).size t.l xs∧(∀b,v.ownBlock=some b→c.who b=some (true,τ))∧
  (∀x∈t.l,bO (T t.E).zero x.cells=true)∧pY base c w τ (T t.E).size t.lin t.l xs
def DL (T:Nat→Ty) (L base:Nat) (c:Cx) (w:World) (τ:Nat) (t:Tok) (v:Value):Prop:=
 t.lin=true→(T t.E).good=true∧(∀x∈t.l,bO (T t.E).zero x.cells=true)∧∃xs bs,w.ownsRow base t.E (T t.E).size v t.l.length xs∧bq c.I w L (T t.E).size t.l xs∧dL w (T t.E).size t.l xs bs∧
  (v.ownBlock.toList++bs).Nodup∧∀b∈v.ownBlock.toList++bs,c.I b∧c.lin b=some τ∧base≤b
theorem Turn.UM {O:Nat→Prop} {w w':World} (h:Turn (fun b=>O b∧false=true) w w'):Below w.heap.size w w':=⟨h.os,h.tape,h.output,h.size,fun k hk=>h.block k hk (fun hm=>by cases hm.2)⟩
structure Bs where
 I:Nat→Prop
 M:Nat→Prop
 A:Nat→Nat→Option Value
 B:Nat→Prop:=fun _=>False
 X:Nat→Option Nat:=fun _=>none
instance:CoeFun Bs (fun _=>Nat→Prop):=⟨Bs.I⟩
def TS (w0:World) (I0:Bs) (c:Cx) (mem:Nat→Option (Nat×List SV)):Prop:=
 (∀b τ,c.who b=some (true,τ)→w0.heap.size≤b)∧(∀b,c.J b∨c.O b→c.who b=none)∧(∀i g cells,mem (1000000+i)=some (g,cells)→∃b,I0.X i=some b∧c.β (1000000+i)=some b)
theorem TS.eq {w0:World} {I0:Bs} {c c':Cx} {mem:Nat→Option (Nat×List SV)} (h:TS w0 I0 c mem) (h1:∀b,c'.who b=c.who b∨c'.who b=none) (h2:c'.J=c.J) (h3:c'.O=c.O) (h4:c'.β=c.β):TS w0 I0 c' mem:=
 ⟨fun b τ hb=>(h1 b).elim (fun e=>h.1 b τ (e ▸ hb)) (fun e=>by rw [e] at hb;cases hb),fun b hb=>(h1 b).elim (fun e=>e.trans (h.2.1 b (by rw [h2,h3] at hb;exact hb))) id,fun i g cells hm=>by rw [h4];exact h.2.2 i g cells hm⟩
structure Gam (T:Nat→Ty) (L:Nat) (w0:World) (I0:Bs) (s:St) (a:Act) (w:World) (c:Cx):Prop where
 below:Turn c.M w0 w I0.B
 wI:∀b,I0 b→c.I b
 AA:∀b,c.I b→I0 b∨(w0.heap.size≤b∧qR w b)
 ilt:∀b,c.I b→b < w.heap.size
 jlt:∀b,c.J b→b < w0.heap.size
 lS:∀b,c.I b→c.who b=none
 olt:∀b,c.O b→b < w0.heap.size
 ofz:c.mt=true→∀b,c.O b→qR w b
 ij:c.mt=true→∀b,c.I b∨c.J b→¬ c.O b
 wlt:∀b,c.who b≠none→(w0.heap.size≤b∨I0.B b)∧b < w.heap.size
 size:a.tmps.size=s.n
 defers:a.defers= []
 om:c.M=I0.M
 ob:c.base=w0.heap.size∧c.As=I0.A
 bo:TS w0 I0 c s.mem
 slots:∀i,ah T c s.tok s.mem w L (s.get i) (a.tmps.getD i undef)
 kX:∀d g cells,s.mem d=some (g,cells)→∃b cs E,c.β d=some b∧c.who b=some (false,d)∧w.heap[b]? =some (.cells (List.toArray cs) E (0,0))∧ak T c s.tok s.mem w L cells cs∧gX cs
 toks:∀τ t,s.tok τ=some t→∃v,c.ω τ=some v∧(t.frz=true→aI c.I w L (.sl t.l) v∧(∀b,v.ownBlock=some b→w0.heap.size≤b)∧DL T L w0.heap.size c w τ t v)∧(t.frz=false→YM T L w0.heap.size c w τ t v)
section
variable {T:Nat→Ty} {L:Nat} {w0:World} {I0:Bs} {s:St} {a:Act} {w:World} {c:Cx}
theorem Oz (a:Array Value) (d:Nat) (v:Value) (i:Nat):(a.setIfInBounds d v).getD i undef=if i=d∧d < a.size then v else a.getD i undef:=by
 simp only [Array.getD_eq_getD_getElem?,Array.getElem?_setIfInBounds]
 by_cases h:d=i
 ·subst h
  by_cases h2:d < a.size<;>simp [h2]
 ·simp [h,Ne.symm h]
theorem Gam.set (h:Gam T L w0 I0 s a w c) {d:Nat} {x:SV} {v:Value} (hv:ah T c s.tok s.mem w L x v):Gam T L w0 I0 (s.set d x) (a.put (some d) v) w c:=by
 refine⟨h.below,h.wI,h.AA,h.ilt,h.jlt,h.lS,h.olt,h.ofz,h.ij,h.wlt,?_,h.defers,h.om,h.ob,h.bo,fun i=>?_,h.kX,h.toks⟩
 ·simpa [Act.put,St.set] using h.size
 ·simp only [Act.put,St.set,Oz,h.size]
  by_cases hi:i=d
  ·subst hi
   simp only [Nat.beq_refl,cond_true,true_and]
   by_cases hn:i < s.n
   ·have:Nat.blt i s.n=true:=by simpa [Nat.blt_eq] using hn
    simp [hn,this,hv]
   ·have:Nat.blt i s.n=false:=by
     cases hb:Nat.blt i s.n with
     |false=>rfl
     |true=>exact absurd (by simpa [Nat.blt_eq] using hb) hn
    simp [this,ah]
  ·have:Nat.beq i d=false:=by
    cases hb:Nat.beq i d with
    |false=>rfl
    |true=>exact absurd (Nat.eq_of_beq_eq_true hb) hi
   simp only [hi,this,false_and,if_false,cond_false];exact h.slots i
theorem Gam.put (h:Gam T L w0 I0 s a w c) {d:Option Nat} {x:SV} {v:Value} (hv:ah T c s.tok s.mem w L x v):Gam T L w0 I0 (s.put d x) (a.put d v) w c:=by
 cases d with
 |none=>exact h
 |some d=>exact h.set hv
theorem Gam.know (h:Gam T L w0 I0 s a w c) {d:Nat} {x:SV} (hv:ah T c s.tok s.mem w L x (a.tmps.getD d undef)):Gam T L w0 I0 (s.set d x) a w c:=by
 refine⟨h.below,h.wI,h.AA,h.ilt,h.jlt,h.lS,h.olt,h.ofz,h.ij,h.wlt,h.size,h.defers,h.om,h.ob,h.bo,fun i=>?_,h.kX,h.toks⟩
 simp only [St.set]
 by_cases hi:i=d
 ·subst hi
  simp only [Nat.beq_refl,cond_true]
  cases Nat.blt i s.n
  ·simp [ah]
  ·exact hv
 ·have:Nat.beq i d=false:=by
   cases hb:Nat.beq i d with
   |false=>rfl
   |true=>exact absurd (Nat.eq_of_beq_eq_true hb) hi
  simp only [this,cond_false];exact h.slots i
theorem Wu {v:Value}:ah T c s.tok s.mem w L (cv v) v:=by
 unfold cv
 split<;>simp [ah,aI]
theorem Gam.ev (h:Gam T L w0 I0 s a w c) (x:Operand):ah T c s.tok s.mem w L (s.ev x) (a.eval x):=by
 cases x with
 |tmp t=>exact h.slots t
 |const v=>exact Wu
 |global g=>simp [St.ev,ah]
 |func f=>simp [St.ev,ah,Act.eval,ak]
theorem DN {w w':World} {base:Nat} {e:TypeId} {size:Nat} {v:Value} {n:Nat} {xs:List Value} (h:w.ownsRow base e size v n xs) (hb:∀b,v.ownBlock=some b→w'.heap[b]? =w.heap[b]?):w'.ownsRow base e size v n xs:=by
 refine⟨h.1,?_⟩
 rcases h.2 with hn|⟨g,cap,cur,rfl,h1,h2,rest⟩
 ·exact .inl hn
 ·exact .inr ⟨g,cap,cur,rfl,h1,by rw [hb g rfl];exact h2,rest⟩
theorem pY.keep {base τ sz:Nat} {q:Bool} {l:List AV} {xs:List Value} {c c':Cx} {w w':World} (h:pY base c w τ sz q l xs) (hI:∀b,c.I b→c'.I b) (hl:∀b,c.I b→c.lin b=some τ→c'.lin b=some τ)
  (hw:∀b o,c.I b→w'.cell? ⟨b,o,none⟩=w.cell? ⟨b,o,none⟩):pY base c' w' τ sz q l xs:=fun hq=>by
 obtain⟨bs,h1,h2,h3⟩:=h hq
 exact⟨bs,h1.mono fun b hb o=>hw b o (h3 b hb).1,h2,fun b hb=>⟨hI b (h3 b hb).1,hl b (h3 b hb).1 (h3 b hb).2.1,(h3 b hb).2.2⟩⟩
theorem DL.keep {T:Nat→Ty} {L base τ:Nat} {t:Tok} {v:Value} {c c':Cx} {w w':World} (h:DL T L base c w τ t v) (hI:∀b,c.I b→c'.I b) (hl:∀b,c.I b→c.lin b=some τ→c'.lin b=some τ)
  (hw:∀b,c.I b→w'.heap[b]? =w.heap[b]?):DL T L base c' w' τ t v:=fun hq=>by
 obtain⟨h0,h4,xs,bs,h1,h6,h2,h3,h5⟩:=h hq
 refine⟨h0,h4,xs,bs,DN h1 fun b hb=>hw b (h5 b (by simp [hb])).1,h6.mono hI (fun b o hi=>World.cell?_of_block (hw b hi)),h2.mono fun b hb o=>World.cell?_of_block (hw b (h5 b (by simp [hb])).1),h3,fun b hb=>⟨hI b (h5 b hb).1,hl b (h5 b hb).1 (h5 b hb).2.1,(h5 b hb).2.2⟩⟩
theorem Gam.mlt (h:Gam T L w0 I0 s a w c):∀k,c.M k→k < w0.heap.size:=fun k hk=>h.olt k hk.1
theorem Gam.FX (h:Gam T L w0 I0 s a w c):∀k,c.O k→k < w.heap.size:=fun k hk=>Nat.lt_of_lt_of_le (h.olt k hk) h.below.size
theorem Gam.Mj (h:Gam T L w0 I0 s a w c):∀k,c.J k→k < w.heap.size:=fun k hk=>Nat.lt_of_lt_of_le (h.jlt k hk) h.below.size
theorem Gam.nm (h:Gam T L w0 I0 s a w c) {k:Nat} (hk:c.I k∨c.J k):¬ c.M k:=fun hm=>h.ij hm.2 k hk hm.1
theorem Gam.OA (h:Gam T L w0 I0 s a w c) {w':World} (e:∀b,c.I b→w'.heap[b]? =w.heap[b]?):∀b,c.I b→I0 b∨(w0.heap.size≤b∧qR w' b):=fun b hi=>
 (h.AA b hi).imp id fun k=>⟨k.1,k.2.same (e b hi)⟩
theorem Gam.Wv (h:Gam T L w0 I0 s a w c) {w':World} (e:∀b,c.O b→w'.heap[b]? =w.heap[b]?):c.mt=true→∀b,c.O b→qR w' b:=fun hm b ho=>(h.ofz hm b ho).same (e b ho)
theorem Gam.YN (h:Gam T L w0 I0 s a w c) {w':World} {I':Nat→Prop} (hb:Turn c.M w w') (hI:∀b,c.I b→I' b):Ext L c s.tok s.mem w { c with I:=I' } s.tok s.mem w':=
 ⟨hI,fun _ h=>h,rfl,rfl,rfl,rfl,fun b o hi=>hi.elim (fun hi=>hb.cell? (h.ilt b hi) (h.nm (.inl hi))) (fun hj=>hb.cell? (h.Mj b hj) (h.nm (.inr hj))),fun hf b o ho=>hb.cell? (h.FX b ho) (fun hm=>by have:=hm.2;rw [hf] at this;cases this),fun hm=>fun b o v hj hv=>hb.cell b o v ⟨hj,hm⟩ hv,fun τ t ht=>⟨t,ht,Nat.le_refl _,fun _=>⟨rfl,rfl⟩⟩,fun d g cells hd=>⟨g,cells,hd,Nat.le_refl _,fun _=>rfl⟩⟩
theorem Gam.grow (h:Gam T L w0 I0 s a w c) {w':World} {I':Nat→Prop} (hb:Turn c.M w w') (hI:∀b,c.I b→I' b) (hI':∀b,I' b→c.I b∨(w.heap.size≤b∧b < w'.heap.size∧qR w' b)):
  Gam T L w0 I0 s a w' { c with I:=I' }:=by
 have hlt:=h.below.size
 have hcell:∀b o,c.I b→w'.cell? ⟨b,o,none⟩=w.cell? ⟨b,o,none⟩:=fun b o hi=>hb.cell? (h.ilt b hi) (h.nm (.inl hi))
 have hwho:∀b,c.who b≠none→w'.heap[b]? =w.heap[b]? :=fun b hi=>hb.block b (h.wlt b hi).2 (fun hm=>hi (h.bo.2.1 b (.inr hm.1)))
 have e:Ext L c s.tok s.mem w { c with I:=I' } s.tok s.mem w':=⟨hI,fun _ h=>h,rfl,rfl,rfl,rfl,fun b o hi=>hi.elim (hcell b o) (fun hj=>hb.cell? (h.Mj b hj) (h.nm (.inr hj))),fun hf b o ho=>hb.cell? (h.FX b ho) (fun hm=>by have:=hm.2;rw [hf] at this;cases this),fun hm=>fun b o v hj hv=>hb.cell b o v ⟨hj,hm⟩ hv,fun τ t ht=>⟨t,ht,Nat.le_refl _,fun _=>⟨rfl,rfl⟩⟩,fun d g cells hd=>⟨g,cells,hd,Nat.le_refl _,fun _=>rfl⟩⟩
 refine⟨h.below.trans hb.all,fun b hb'=>hI b (h.wI b hb'),?_,?_,h.jlt,?_,h.olt,fun hm b ho=>hb.thaw b ⟨ho,hm⟩ (h.ofz hm b ho),?_,?_,h.size,h.defers,h.om,h.ob,h.bo,fun i=>ah.ext e _ _ (h.slots i),?_,?_⟩
 ·intro b hi
  rcases hI' b hi with hi|⟨hi,_,ht⟩
  ·exact h.OA (fun b hi=>hb.block b (h.ilt b hi) (h.nm (.inl hi))) b hi
  ·exact .inr ⟨by omega,ht⟩
 ·intro b hi
  have:=hb.size
  rcases hI' b hi with hi|⟨_,hi,_⟩
  ·have:=h.ilt b hi;omega
  ·exact hi
 ·intro b hi
  rcases hI' b hi with hi|⟨hi,_⟩
  ·exact h.lS b hi
  ·cases hw:c.who b with
   |none=>rfl
   |some x=>have:=(h.wlt b (by simp [hw])).2;omega
 ·rintro hm b (hi|hi) hj
  ·rcases hI' b hi with hi|⟨hi,_⟩
   ·exact h.ij hm b (.inl hi) hj
   ·have:=h.olt b hj;omega
  ·exact h.ij hm b (.inr hi) hj
 ·intro b hi
  have h1:=h.wlt b hi
  have:=hb.size
  exact⟨h1.1,by omega⟩
 ·intro d g cells hd
  obtain⟨b,cs,E,h1,h2,h3,h4,h5⟩:=h.kX d g cells hd
  refine⟨b,cs,E,h1,h2,?_,ak.ext e _ _ h4,h5⟩
  rw [hwho b (by simp [h2])]
  exact h3
 ·intro τ t ht
  obtain⟨v,h1,h2,h3⟩:=h.toks τ t ht
  refine⟨v,h1,fun hf=>⟨(h2 hf).1.mono hI hcell,(h2 hf).2.1,(h2 hf).2.2.keep hI (fun _ _ h=>h) fun b hi=>hb.block b (h.ilt b hi) (h.nm (.inl hi))⟩,fun hf=>?_⟩
  obtain⟨h4,hgd,xs,h5,h6,h7,h8,h9⟩:=h3 hf
  refine⟨h4,hgd,xs,?_,h6.mono hI hcell,h7,h8,h9.keep hI (fun _ _ h=>h) hcell⟩
  exact DN h5 fun b hvb=>hwho b (by simp [h7 b hvb])
end
end Go.Proofs.YtjfnojijdggfhaaGreat.Abs
namespace Go.Proofs.YtjfnojijdggfhaaGreat.Abs
open Go.RowKit
def upd {α:Type} (f:Nat→α) (k:Nat) (v:α):Nat→α:=fun i=>if i=k then v else f i
theorem upd_same {α:Type} (f:Nat→α) (k:Nat) (v:α):upd f k v k=v:=by simp [upd]
theorem upd_ne {α:Type} (f:Nat→α) {k i:Nat} (v:α) (h:i≠k):upd f k v i=f i:=by simp [upd,h]
theorem rX {i j:Nat} (h:i≠j):Nat.beq i j=false:=by
 cases hb:Nat.beq i j with
 |false=>rfl
 |true=>exact absurd (Nat.eq_of_beq_eq_true hb) h
theorem dS (s:St) (τ:Nat) (t:Tok):(s.aU τ t).tok τ=some t:=by simp [St.aU]
theorem iB (s:St) {τ σ:Nat} (t:Tok) (h:σ≠τ):(s.aU τ t).tok σ=s.tok σ:=by simp [St.aU,rX h]
theorem eD (s:St) (d g:Nat) (cs:List SV):(s.dJ d g cs).mem d=some (g,cs):=by simp [St.dJ]
theorem fG (s:St) {d e:Nat} (g:Nat) (cs:List SV) (h:e≠d):(s.dJ d g cs).mem e=s.mem e:=by simp [St.dJ,rX h]
section
variable {T:Nat→Ty} {L:Nat} {w0:World} {I0:Bs} {s:St} {a:Act} {w:World} {c:Cx}
theorem Gam.GR (h:Gam T L w0 I0 s a w c) {τ:Nat} {t:Tok} {v:Value} (ht:s.tok τ=some t) (hv:c.ω τ=some v) (hf:t.frz=false):∀b,v.ownBlock=some b→c.who b=some (true,τ)∧b < w.heap.size:=by
 intro b hb
 obtain⟨v',h1,_,h3⟩:=h.toks τ t ht
 rw [hv] at h1;cases h1
 obtain⟨_,_,xs,_,_,h7,_⟩:=h3 hf
 exact⟨h7 b hb,(h.wlt b (by simp [h7 b hb])).2⟩
theorem GU {w:World} {base:Nat} {e:TypeId} {size:Nat} {v:Value} {n:Nat} {xs:List Value} (h:w.ownsRow base e size v n xs) {b:Nat} (hb:v.ownBlock=some b):qR w b:=by
 rcases h.2 with⟨rfl,_⟩|⟨g,cap,cur,rfl,_,h2,_⟩
 ·cases hb
 ·cases hb
  intro o
  simp [World.frozen?,h2]
theorem Gam.bP (h:Gam T L w0 I0 s a w c) {d:Nat} {cells:List SV} {cs:List Value} (E:TypeId) (hc:ak T c s.tok s.mem w L cells cs) (hn:gX cs) (hd6:d < 1000000):
  ∃c',Gam T L w0 I0 (bP s d cells).2 a (w.alloc (.cells cs.toArray E)) c'∧
   ah T c' (bP s d cells).2.tok (bP s d cells).2.mem (w.alloc (.cells cs.toArray E)) L (bP s d cells).1 (.pointer (some ⟨w.heap.size,0,none⟩))∧
   Ext L c s.tok s.mem w c' (bP s d cells).2.tok (bP s d cells).2.mem (w.alloc (.cells cs.toArray E)):=by
 have hg:∀g' cells',s.mem d=some (g',cells')→g' < fZ (s.mem d):=fun g' cells' h=>by rw [h];simp [fZ]
 simp only [Abs.bP]
 generalize fZ (s.mem d)=g at hg
 refine⟨{ c with β:=upd c.β d (some w.heap.size),who:=upd c.who w.heap.size (some (false,d)) },?_⟩
 have hcell:∀b o,c.I b→(w.alloc (.cells cs.toArray E)).cell? ⟨b,o,none⟩=w.cell? ⟨b,o,none⟩:=fun b o hi=>
  World.cell?_of_block (heap_alloc_old w _ (h.ilt b hi))
 have uD:∀b o,c.J b→(w.alloc (.cells cs.toArray E)).cell? ⟨b,o,none⟩=w.cell? ⟨b,o,none⟩:=fun b o hi=>
  World.cell?_of_block (heap_alloc_old w _ (Nat.lt_of_lt_of_le (h.jlt b hi) h.below.size))
 have qb:∀b o,c.O b→(w.alloc (.cells cs.toArray E)).cell? ⟨b,o,none⟩=w.cell? ⟨b,o,none⟩:=fun b o hi=>
  World.cell?_of_block (heap_alloc_old w _ (Nat.lt_of_lt_of_le (h.olt b hi) h.below.size))
 have e:Ext L c s.tok s.mem w { c with β:=upd c.β d (some w.heap.size),who:=upd c.who w.heap.size (some (false,d)) } s.tok (s.dJ d g cells).mem (w.alloc (.cells cs.toArray E)):=by
  refine⟨fun _ hi=>hi,fun _ hj=>hj,rfl,rfl,rfl,rfl,fun b o hi=>hi.elim (hcell b o) (uD b o),fun _=>qb,fun _=>Turned.same qb,fun τ t ht=>⟨t,ht,Nat.le_refl _,fun _=>⟨rfl,rfl⟩⟩,fun d' g' cells' hd=>?_⟩
  by_cases hdd:d'=d
  ·subst hdd
   have:=hg g' cells' hd
   exact⟨g,cells,eD s d' g cells,by omega,fun hgg=>by omega⟩
  ·exact⟨g',cells',by rw [fG s g cells hdd];exact hd,Nat.le_refl _,fun _=>upd_ne _ _ hdd⟩
 have hsz:(w.alloc (.cells cs.toArray E)).heap.size=w.heap.size+1:=by simp
 refine⟨⟨?_,h.wI,h.OA fun b hi=>heap_alloc_old w _ (h.ilt b hi),?_,h.jlt,?_,h.olt,h.Wv fun b hi=>heap_alloc_old w _ (h.FX b hi),h.ij,?_,h.size,h.defers,h.om,h.ob,?_,fun i=>ah.ext e _ _ (h.slots i),?_,?_⟩,?_,e⟩
 ·exact h.below.keep h.mlt ((Below.refl _ _).alloc h.below.size _) (Nat.le_refl _)
 ·intro b hi;have:=h.ilt b hi;omega
 ·intro b hi;exact (upd_ne _ _ (Nat.ne_of_lt (h.ilt b hi))).trans (h.lS b hi)
 ·intro b hi
  by_cases hb:b=w.heap.size
  ·have:=h.below.size;exact⟨.inl (by omega),by omega⟩
  ·simp only [upd_ne _ _ hb] at hi
   have h1:=h.wlt b hi;exact⟨h1.1,by omega⟩
 ·have hne:∀b,b < w.heap.size→b≠w.heap.size:=fun b hb=>Nat.ne_of_lt hb
  refine⟨fun b τ hb=>?_,fun b hb=>?_,fun i g' cells' hm=>?_⟩
  ·by_cases e:b=w.heap.size
   ·rw [e];exact h.below.size
   ·simp only [upd_ne _ _ e] at hb;exact h.bo.1 b τ hb
  ·have hlt:b < w.heap.size:=hb.elim (h.Mj b) (h.FX b)
   simp only [upd_ne _ _ (hne b hlt)];exact h.bo.2.1 b hb
  ·rw [fG s g cells (show 1000000+i≠d by omega)] at hm
   simp only [upd_ne _ _ (show 1000000+i≠d by omega)];exact h.bo.2.2 i g' cells' hm
 ·intro d' g' cells' hd
  by_cases hdd:d'=d
  ·subst hdd
   rw [eD] at hd
   cases hd
   exact⟨w.heap.size,cs,E,upd_same _ _ _,upd_same _ _ _,heap_alloc_new w _,ak.ext e _ _ hc,hn⟩
  ·rw [fG s g cells hdd] at hd
   obtain⟨b,cs',E',h1,h2,h3,h4,h5⟩:=h.kX d' g' cells' hd
   have hb:=(h.wlt b (by simp [h2])).2
   exact⟨b,cs',E',by simpa only [upd_ne _ _ hdd] using h1,by simpa only [upd_ne _ _ (Nat.ne_of_lt hb)] using h2,by rw [heap_alloc_old w _ hb];exact h3,ak.ext e _ _ h4,h5⟩
 ·intro τ t ht
  obtain⟨v,h1,h2,h3⟩:=h.toks τ t ht
  refine⟨v,h1,fun hf=>⟨(h2 hf).1.mono (fun _ hi=>hi) hcell,(h2 hf).2.1,(h2 hf).2.2.keep (fun _ h=>h) (fun _ _ h=>h) fun b hi=>heap_alloc_old w _ (h.ilt b hi)⟩,fun hf=>?_⟩
  obtain⟨h4,hgd,xs,h5,h6,h7,h8,h9⟩:=h3 hf
  refine⟨h4,hgd,xs,h5.alloc _,h6.mono (fun _ hi=>hi) hcell,fun b hb=>?_,h8,h9.keep (fun _ h=>h) (fun _ _ h=>h) hcell⟩
  have:=(h.GR ht h1 hf b hb).2
  simpa only [upd_ne _ _ (Nat.ne_of_lt this)] using h7 b hb
 ·simp only [ah]
  exact⟨g,cells,eD s d g cells,Nat.le_refl _,fun _=>⟨w.heap.size,upd_same _ _ _,rfl⟩⟩
theorem Gam.token (h:Gam T L w0 I0 s a w c) {τ g E:Nat} {l:List AV} {q:Bool} {w':World} {v:Value} {row:Option Nat} {xs:List Value}
  (hgen:∀t,s.tok τ=some t→t.gen < g)
  (hgrow:w.grownBy w' row) (hdr:w.drawn≤w'.drawn) (hrow:∀b,row=some b→c.who b=some (true,τ))
  (hown:w'.ownsRow w0.heap.size E (T E).size v l.length xs) (hrows:bq c.I w L (T E).size l xs) (hl:l.length≤L) (hE:(T E).good=true)
  (hfit:∀x∈l,bO (T E).zero x.cells=true) (hlin:pY w0.heap.size c w τ (T E).size q l xs)
  (hblk:∀b,v.ownBlock=some b→row=some b∨(c.who b=none∧¬ c.I b)):
  ∃c',Gam T L w0 I0 (s.aU τ ⟨g,false,E,l,q⟩) a w' c'∧ah T c' (s.aU τ ⟨g,false,E,l,q⟩).tok s.mem w' L (.own τ g) v∧
   Ext L c s.tok s.mem w c' (s.aU τ ⟨g,false,E,l,q⟩).tok s.mem w'∧c'.I=c.I∧∀b,v.ownBlock≠some b→c'.who b=c.who b:=by
 have hcell:∀b o,c.I b→w'.cell? ⟨b,o,none⟩=w.cell? ⟨b,o,none⟩:=fun b o hi=>
  World.cell?_of_block (hgrow.block b (h.ilt b hi) (fun e=>by have:=hrow b e.symm;rw [h.lS b hi] at this;cases this))
 let who':Nat→Option (Bool×Nat):=match v.ownBlock with|some b=>upd c.who b (some (true,τ))|none=>c.who
 have hwho:∀b,v.ownBlock=some b→who' b=some (true,τ):=by
  intro b hb;simp only [who',hb,upd_same]
 have UN:∀b,v.ownBlock≠some b→who' b=c.who b:=by
  intro b hb
  cases hv:v.ownBlock with
  |none=>simp [who',hv]
  |some k=>
   simp only [who',hv]
   exact upd_ne _ _ (fun e=>by subst e;exact hb hv)
 have UO:∀b,c.I b∨c.who b≠none→who' b=c.who b:=by
  intro b hb
  cases hv:v.ownBlock with
  |none=>simp [who',hv]
  |some k=>
   simp only [who',hv]
   by_cases hbk:b=k
   ·subst hbk
    rw [upd_same]
    rcases hblk b hv with hr|⟨hr,hr'⟩
    ·exact (hrow b hr).symm
    ·exact (hb.elim hr' (fun h=>h hr)).elim
   ·exact upd_ne _ _ hbk
 have YO:∀b,who' b≠none→(w0.heap.size≤b∨I0.B b)∧b < w'.heap.size:=by
  intro b hb
  have hs:=hgrow.size
  by_cases hlt:c.who b≠none
  ·have h1:=h.wlt b hlt;exact⟨h1.1,by omega⟩
  ·cases hv:v.ownBlock with
   |none=>simp only [who',hv] at hb;have h1:=h.wlt b hb;exact⟨h1.1,by omega⟩
   |some k=>
    simp only [who',hv] at hb
    by_cases hbk:b=k
    ·subst hbk
     have:=hown.lt b hv
     exact⟨.inl this.1,this.2⟩
    ·rw [upd_ne _ _ hbk] at hb
     have h1:=h.wlt b hb;exact⟨h1.1,by omega⟩
 have YP:TS w0 I0 { c with ω:=upd c.ω τ (some v),who:=who' } s.mem:=by
  refine⟨fun b σ hb=>?_,fun b hb=>?_,fun i g' cells' hm=>h.bo.2.2 i g' cells' hm⟩
  ·by_cases hvb:v.ownBlock=some b
   ·exact (hown.lt b hvb).1
   ·exact h.bo.1 b σ ((UN b hvb).symm.trans hb)
  ·have h1:=h.bo.2.1 b hb
   have hlt:b < w0.heap.size:=hb.elim (h.jlt b) (h.olt b)
   by_cases hvb:v.ownBlock=some b
   ·have:=(hown.lt b hvb).1;omega
   ·exact (UN b hvb).trans h1
 refine⟨{ c with ω:=upd c.ω τ (some v),who:=who' },?_⟩
 have e:Ext L c s.tok s.mem w { c with ω:=upd c.ω τ (some v),who:=who' } (s.aU τ ⟨g,false,E,l,q⟩).tok s.mem w':=by
  have uD:∀b o,c.J b→w'.cell? ⟨b,o,none⟩=w.cell? ⟨b,o,none⟩:=fun b o hj=>World.cell?_of_block (hgrow.block b (Nat.lt_of_lt_of_le (h.jlt b hj) h.below.size) (fun e=>by have:=h.bo.1 b τ (hrow b e.symm);have:=h.jlt b hj;omega))
  have qb:∀b o,c.O b→w'.cell? ⟨b,o,none⟩=w.cell? ⟨b,o,none⟩:=fun b o hj=>World.cell?_of_block (hgrow.block b (Nat.lt_of_lt_of_le (h.olt b hj) h.below.size) (fun e=>by have:=h.bo.1 b τ (hrow b e.symm);have:=h.olt b hj;omega))
  refine⟨fun _ hi=>hi,fun _ hj=>hj,rfl,rfl,rfl,rfl,fun b o hi=>hi.elim (hcell b o) (uD b o),fun _=>qb,fun _=>Turned.same qb,fun σ t ht=>?_,fun d g cells hd=>⟨g,cells,hd,Nat.le_refl _,fun _=>rfl⟩⟩
  by_cases hs:σ=τ
  ·subst hs
   have:=hgen t ht
   exact⟨_,dS s σ _,Nat.le_of_lt this,fun hh=>by simp at hh;omega⟩
  ·exact⟨t,by rw [iB s _ hs];exact ht,Nat.le_refl _,fun _=>⟨upd_ne _ _ hs,rfl⟩⟩
 have hbI:∀b,c.I b→w'.heap[b]? =w.heap[b]? :=fun b hi=>hgrow.block b (h.ilt b hi) (fun e=>by have:=hrow b e.symm;rw [h.lS b hi] at this;cases this)
 have hbO:∀b,c.O b→w'.heap[b]? =w.heap[b]? :=fun b hj=>hgrow.block b (h.FX b hj) (fun e=>by have:=h.bo.1 b τ (hrow b e.symm);have:=h.olt b hj;omega)
 refine⟨⟨?_,h.wI,h.OA hbI,?_,h.jlt,?_,h.olt,h.Wv hbO,h.ij,YO,h.size,h.defers,h.om,h.ob,YP,fun i=>ah.ext e _ _ (h.slots i),?_,?_⟩,?_,e,rfl,UN⟩
 ·exact h.below.keep h.mlt ((Below.refl _ _).grown hgrow h.below.size (fun k hk=>h.bo.1 k τ (hrow k hk))) hdr
 ·intro b hi;have:=h.ilt b hi;have:=hgrow.size;omega
 ·intro b hi;exact (UO b (.inl hi)).trans (h.lS b hi)
 ·intro d g cells hd
  obtain⟨b,cs,E',h1,h2,h3,h4,h5⟩:=h.kX d g cells hd
  have hb:=(h.wlt b (by simp [h2])).2
  refine⟨b,cs,E',h1,(UO b (.inr (by simp [h2]))).trans h2,?_,ak.ext e _ _ h4,h5⟩
  rw [hgrow.block b hb (fun e=>by have:=hrow b e.symm;rw [h2] at this;cases this)]
  exact h3
 ·intro σ t ht
  by_cases hs:σ=τ
  ·subst hs
   rw [dS] at ht
   cases ht
   exact⟨v,upd_same _ _ _,nofun,fun _=>⟨hl,hE,xs,hown,hrows.mono (fun _ hi=>hi) hcell,hwho,hfit,hlin.keep (fun _ h=>h) (fun _ _ h=>h) hcell⟩⟩
  ·rw [iB s _ hs] at ht
   obtain⟨u,h1,h2,h3⟩:=h.toks σ t ht
   refine⟨u,by simpa only [upd_ne _ _ hs] using h1,fun hf=>⟨(h2 hf).1.mono (fun _ hi=>hi) hcell,(h2 hf).2.1,(h2 hf).2.2.keep (fun _ h=>h) (fun _ _ h=>h) hbI⟩,fun hf=>?_⟩
   obtain⟨h4,hgd,ys,h5,h6,h7,h8,h9⟩:=h3 hf
   have hob:=h.GR ht h1 hf
   refine⟨h4,hgd,ys,h5.kept hgrow ?_,h6.mono (fun _ hi=>hi) hcell,fun b hb=>(UO b (.inr (by simp [h7 b hb]))).trans (h7 b hb),h8,h9.keep (fun _ h=>h) (fun _ _ h=>h) hcell⟩
   cases hub:u.ownBlock with
   |none=>exact .inl rfl
   |some b=>
    refine .inr fun e=>?_
    have h8:=hrow b e.symm
    rw [(hob b hub).1] at h8
    cases h8
    exact hs rfl
 ·simp only [ah]
  exact⟨_,dS s τ _,Nat.le_refl _,fun _=>upd_same _ _ _⟩
theorem GV {base:Nat} {E:TypeId} {sz n:Nat} {v:Value} {xs:List Value} {I:Nat→Prop} {l:List AV} (hn:l.length=n) (hL:n≤L) (h:w.ownsRow base E sz v n xs) (hr:bq I w L sz l xs) (hI:∀b,v.ownBlock=some b→I b):
  aI I w L (.sl l) v:=by
 simp only [aI,aG]
 rcases h.2 with⟨rfl,h0⟩|⟨b,cap,cur,rfl,hb,hg,hc,hm,hs,ht⟩
 ·exact⟨none,0,by rw [hn,h0],by omega,by omega,.inl (by omega)⟩
 ·refine⟨_,cap,by rw [hn],by omega,by omega,.inr ⟨b,0,sz,rfl,hI b rfl,hr.lies fun j u hu=>?_⟩⟩
  have:=h.cells (g:=b) rfl j u hu
  rw [Addr.add_lit] at this
  simpa using this
theorem Gam.SI (h:Gam T L w0 I0 s a w c) {τ:Nat} {t:Tok} (ht:s.tok τ=some t):
  ∃c' v,Gam T L w0 I0 (s.aU τ { t with frz:=true }) a w c'∧Ext L c s.tok s.mem w c' (s.aU τ { t with frz:=true }).tok s.mem w∧c.ω τ=some v∧aI c'.I w L (.sl t.l) v∧
   (∀σ b,c.I b→c.lin b=some σ→c'.lin b=some σ)∧DL T L w0.heap.size c' w τ t v:=by
 obtain⟨v,h1,h2,h3⟩:=h.toks τ t ht
 by_cases hf:t.frz=true
 ·have heq:s.aU τ { t with frz:=true }=s:=by
   have:({ t with frz:=true }:Tok)=t:=by cases t;simp at hf;simp [hf]
   rw [this]
   simp only [St.aU]
   congr 1
   funext i
   by_cases hi:i=τ
   ·subst hi;simp [ht]
   ·simp [rX hi]
  rw [heq]
  refine⟨c,v,h,⟨fun _ hi=>hi,fun _ hj=>hj,rfl,rfl,rfl,rfl,fun _ _ _=>rfl,fun _ _ _ _=>rfl,fun _=>Turned.refl _ _,fun τ t ht=>⟨t,ht,Nat.le_refl _,fun _=>⟨rfl,rfl⟩⟩,fun d g cells hd=>⟨g,cells,hd,Nat.le_refl _,fun _=>rfl⟩⟩,h1,(h2 hf).1,fun _ _ _ h=>h,(h2 hf).2.2⟩
 ·have hf':t.frz=false:=by simpa using hf
  obtain⟨h4,hgd,xs,h5,h6,h7,h8,h9⟩:=h3 hf'
  let who':Nat→Option (Bool×Nat):=match v.ownBlock with|some b=>upd c.who b none|none=>c.who
  let wJ:Nat→Option Nat:=fun b=>if v.ownBlock=some b then some τ else c.lin b
  have hlin:∀b σ,c.I b→c.lin b=some σ→wJ b=some σ:=fun b σ hi hb=>by
   have:v.ownBlock≠some b:=fun e=>by have:=h7 b e;rw [h.lS b hi] at this;cases this
   simp only [wJ,if_neg this];exact hb
  have hwho:∀b,v.ownBlock≠some b→who' b=c.who b:=by
   intro b hb
   cases hv:v.ownBlock with
   |none=>simp [who',hv]
   |some k=>
    simp only [who',hv]
    exact upd_ne _ _ (fun e=>by subst e;exact hb hv)
  have GX:∀b,v.ownBlock=some b→who' b=none:=by
   intro b hb;simp only [who',hb,upd_same]
  let c':Cx:={ c with I:=fun b=>c.I b∨v.ownBlock=some b,who:=who',lin:=wJ }
  have e:Ext L c s.tok s.mem w c' (s.aU τ { t with frz:=true }).tok s.mem w:=by
   refine⟨fun _ hi=>.inl hi,fun _ hj=>hj,rfl,rfl,rfl,rfl,fun _ _ _=>rfl,fun _ _ _ _=>rfl,fun _=>Turned.refl _ _,fun σ t' ht'=>?_,fun d g cells hd=>⟨g,cells,hd,Nat.le_refl _,fun _=>rfl⟩⟩
   by_cases hs:σ=τ
   ·subst hs
    rw [ht] at ht';cases ht'
    exact⟨_,dS s σ _,Nat.le_refl _,fun _=>⟨rfl,rfl⟩⟩
   ·exact⟨t',by rw [iB s _ hs];exact ht',Nat.le_refl _,fun _=>⟨rfl,rfl⟩⟩
  have hlt:=h.GR ht h1 hf'
  have hnew:∀b,v.ownBlock=some b→w0.heap.size≤b∧b < w.heap.size:=fun b hb=>⟨h.bo.1 b τ (hlt b hb).1,(hlt b hb).2⟩
  have hRV:aI c'.I w L (.sl t.l) v:=GV rfl h4 h5 (h6.mono (fun _ hi=>.inl hi) (fun _ _ _=>rfl)) (fun b hb=>.inr hb)
  have hLF:DL T L w0.heap.size c' w τ t v:=fun hq=>by
   obtain⟨bs,m1,m2,m3⟩:=h9 hq
   refine⟨hgd,h8,xs,bs,h5,h6.mono (fun _ hi=>.inl hi) (fun _ _ _=>rfl),m1,?_,fun b hb=>?_⟩
   ·rw [List.nodup_append]
    refine⟨by cases v.ownBlock<;>simp,m2,fun x hx y hy e=>?_⟩
    subst e
    have:=h7 x (by simpa using hx)
    rw [h.lS x (m3 x hy).1] at this;cases this
   ·rcases List.mem_append.1 hb with hb|hb
    ·have hb':v.ownBlock=some b:=by simpa using hb
     exact⟨.inr hb',by simp only [c',wJ,if_pos hb'],(hnew b hb').1⟩
    ·exact⟨.inl (m3 b hb).1,hlin b _ (m3 b hb).1 (m3 b hb).2.1,(m3 b hb).2.2⟩
  refine⟨c',v,⟨h.below,fun b hi=>.inl (h.wI b hi),?_,?_,h.jlt,?_,h.olt,h.ofz,?_,?_,h.size,h.defers,h.om,h.ob,h.bo.eq (fun b=>(Classical.em (v.ownBlock=some b)).elim (fun e=>.inr (GX b e)) (fun e=>.inl (hwho b e))) rfl rfl rfl,fun i=>ah.ext e _ _ (h.slots i),?_,?_⟩,e,h1,hRV,fun σ b hi=>hlin b σ hi,hLF⟩
  ·rintro b (hi|hi)
   ·exact h.AA b hi
   ·exact .inr ⟨(hnew b hi).1,GU h5 hi⟩
  ·rintro b (hi|hi)
   ·exact h.ilt b hi
   ·exact (hnew b hi).2
  ·rintro b (hi|hi)
   ·by_cases hb:v.ownBlock=some b
    ·exact GX b hb
    ·exact (hwho b hb).trans (h.lS b hi)
   ·exact GX b hi
  ·rintro hm b ((hi|hi)|hi) hj
   ·exact h.ij hm b (.inl hi) hj
   ·have:=h.olt b hj;have:=(hnew b hi).1;omega
   ·exact h.ij hm b (.inr hi) hj
  ·intro b hb
   by_cases hv:v.ownBlock=some b
   ·exact absurd (GX b hv) hb
   ·exact h.wlt b (by rw [← hwho b hv];exact hb)
  ·intro d g cells hd
   obtain⟨b,cs,E,k1,k2,k3,k4,k5⟩:=h.kX d g cells hd
   refine⟨b,cs,E,k1,?_,k3,ak.ext e _ _ k4,k5⟩
   refine (hwho b fun hv=>?_).trans k2
   have:=(hlt b hv).1
   rw [k2] at this;cases this
  ·intro σ t' ht'
   by_cases hs:σ=τ
   ·subst hs
    rw [dS] at ht';cases ht'
    exact⟨v,h1,fun _=>⟨hRV,fun b hb=>(hnew b hb).1,hLF⟩,nofun⟩
   ·rw [iB s _ hs] at ht'
    obtain⟨u,k1,k2,k3⟩:=h.toks σ t' ht'
    refine⟨u,k1,fun hf=>⟨(k2 hf).1.mono (fun _ hi=>.inl hi) (fun _ _ _=>rfl),(k2 hf).2.1,(k2 hf).2.2.keep (fun _ hi=>.inl hi) (fun b hi=>hlin b _ hi) (fun _ _=>rfl)⟩,fun hf=>?_⟩
    obtain⟨k4,kgd,ys,k5,k6,k7,k8,k9⟩:=k3 hf
    refine⟨k4,kgd,ys,k5,k6.mono (fun _ hi=>.inl hi) (fun _ _ _=>rfl),fun b hb=>?_,k8,k9.keep (fun _ hi=>.inl hi) (fun b hi=>hlin b _ hi) (fun _ _ _=>rfl)⟩
    refine (hwho b fun hv=>?_).trans (k7 b hb)
    have:=(hlt b hv).1
    rw [k7 b hb] at this;cases this
    exact hs rfl
theorem Gam.freeze (h:Gam T L w0 I0 s a w c) {τ:Nat} {t:Tok} (ht:s.tok τ=some t):
  ∃c' v,Gam T L w0 I0 (s.aU τ { t with frz:=true }) a w c'∧Ext L c s.tok s.mem w c' (s.aU τ { t with frz:=true }).tok s.mem w∧c.ω τ=some v∧aI c'.I w L (.sl t.l) v:=by
 obtain⟨c',v,h1,h2,h3,h4,_⟩:=h.SI ht
 exact⟨c',v,h1,h2,h3,h4⟩
theorem Ext.refl (L:Nat) (c:Cx) (tok:Nat→Option Tok) (mem:Nat→Option (Nat×List SV)) (w:World):Ext L c tok mem w c tok mem w:=
 ⟨fun _ hi=>hi,fun _ hj=>hj,rfl,rfl,rfl,rfl,fun _ _ _=>rfl,fun _ _ _ _=>rfl,fun _=>Turned.refl _ _,fun _ t ht=>⟨t,ht,Nat.le_refl _,fun _=>⟨rfl,rfl⟩⟩,fun _ g cells hd=>⟨g,cells,hd,Nat.le_refl _,fun _=>rfl⟩⟩
theorem Ext.trans {L:Nat} {c c1 c2:Cx} {tok YQ YR:Nat→Option Tok} {mem mem1 mem2:Nat→Option (Nat×List SV)} {w w1 w2:World}
  (h:Ext L c tok mem w c1 YQ mem1 w1) (k:Ext L c1 YQ mem1 w1 c2 YR mem2 w2):Ext L c tok mem w c2 YR mem2 w2:=by
 refine⟨fun b hi=>k.hI b (h.hI b hi),fun b hi=>k.hJ b (h.hJ b hi),k.hmt.trans h.hmt,k.hbase.trans h.hbase,k.hAs.trans h.hAs,k.hO.trans h.hO,fun b o hi=>(k.hw b o (hi.imp (h.hI b) (h.hJ b))).trans (h.hw b o hi),fun hf b o ho=>(k.hf (h.hmt.trans hf) b o (h.hO ▸ ho)).trans (h.hf hf b o ho),fun ht b o v ho hv=>?_,fun τ t ht=>?_,fun d g cells hd=>?_⟩
 ·exact (h.ht ht).trans (fun b o v ho hv=>k.ht (h.hmt.trans ht) b o v (h.hO ▸ ho) hv) b o v ho hv
 ·obtain⟨t1,a1,a2,a3⟩:=h.TR τ t ht
  obtain⟨t2,b1,b2,b3⟩:=k.TR τ t1 a1
  refine⟨t2,b1,Nat.le_trans a2 b2,fun e=>?_⟩
  have e1:=a3 (by omega)
  have e2:=b3 (by omega)
  exact⟨e2.1.trans e1.1,e2.2.trans e1.2⟩
 ·obtain⟨g1,c1',a1,a2,a3⟩:=h.hmem d g cells hd
  obtain⟨g2,c2',b1,b2,b3⟩:=k.hmem d g1 c1' a1
  exact⟨g2,c2',b1,Nat.le_trans a2 b2,fun e=>(b3 (by omega)).trans (a3 (by omega))⟩
theorem Gam.UQ (h:Gam T L w0 I0 s a w c) {d g off:Nat} {cells new:List SV} {vs:List Value} (hd:s.mem d=some (g,cells)) (hnew:ak T c s.tok s.mem w L new vs) (hn:gX vs) (_hfit:off+new.length≤cells.length):
  ∃b cs E c',c.β d=some b∧w.heap[b]? =some (.cells (List.toArray cs) E (0,0))∧cs.length=cells.length∧
   Gam T L w0 I0 (s.dJ d g (splice cells off new)) a (w.setRow b (cs.take off++vs++cs.drop (off+vs.length)).toArray) c':=by
 obtain⟨b,cs,E,h1,h2,h3,h4,h5⟩:=h.kX d g cells hd
 have hlen:=(ak.all2.1 h4).length
 have OB:=(ak.all2.1 hnew).length
 refine⟨b,cs,E,c,h1,h3,hlen.symm,?_⟩
 have hb:=h.wlt b (by simp [h2])
 generalize hcs':cs.take off++vs++cs.drop (off+vs.length)=cs'
 have hblk:∀k,k≠b→(w.setRow b cs'.toArray).heap[k]? =w.heap[k]? :=fun k hk=>by
  simp only [World.setRow,Array.getElem?_modify,if_neg (Ne.symm hk)]
 have hself:(w.setRow b cs'.toArray).heap[b]? =some (.cells cs'.toArray E (0,0)):=by
  simp only [World.setRow,Array.getElem?_modify,if_true,h3,Option.map_some]
 have hcell:∀k o,c.I k→(w.setRow b cs'.toArray).cell? ⟨k,o,none⟩=w.cell? ⟨k,o,none⟩:=fun k o hi=>
  World.cell?_of_block (hblk k (fun e=>by subst e;have:=h.lS k hi;rw [h2] at this;cases this))
 have e:Ext L c s.tok s.mem w c s.tok (s.dJ d g (splice cells off new)).mem (w.setRow b cs'.toArray):=by
  have uD:∀k o,c.J k→(w.setRow b cs'.toArray).cell? ⟨k,o,none⟩=w.cell? ⟨k,o,none⟩:=fun k o hj=>World.cell?_of_block (hblk k (fun e=>by subst e;have:=h.bo.2.1 k (.inl hj);rw [h2] at this;cases this))
  have qb:∀k o,c.O k→(w.setRow b cs'.toArray).cell? ⟨k,o,none⟩=w.cell? ⟨k,o,none⟩:=fun k o hj=>World.cell?_of_block (hblk k (fun e=>by subst e;have:=h.bo.2.1 k (.inr hj);rw [h2] at this;cases this))
  refine⟨fun _ hi=>hi,fun _ hj=>hj,rfl,rfl,rfl,rfl,fun k o hi=>hi.elim (hcell k o) (uD k o),fun _=>qb,fun _=>Turned.same qb,fun τ t ht=>⟨t,ht,Nat.le_refl _,fun _=>⟨rfl,rfl⟩⟩,fun d' g' cells' hd'=>?_⟩
  by_cases hdd:d'=d
  ·subst hdd
   rw [hd] at hd';cases hd'
   exact⟨g,_,eD s d' g _,Nat.le_refl _,fun _=>rfl⟩
  ·exact⟨g',cells',by rw [fG s g _ hdd];exact hd',Nat.le_refl _,fun _=>rfl⟩
 have hsz:(w.setRow b cs'.toArray).heap.size=w.heap.size:=by simp [World.setRow]
 have hOb:∀k,c.O k→k≠b:=fun k ho e=>by subst e;have:=h.bo.2.1 k (.inr ho);rw [h2] at this;cases this
 have hbo:TS w0 I0 c (s.dJ d g (splice cells off new)).mem:=by
  refine⟨h.bo.1,h.bo.2.1,fun i g' cells' hm=>?_⟩
  by_cases hdd:1000000+i=d
  ·exact h.bo.2.2 i g cells (by rw [hdd];exact hd)
  ·rw [fG s g _ hdd] at hm;exact h.bo.2.2 i g' cells' hm
 refine⟨?_,h.wI,h.OA fun k hi=>hblk k (fun e=>by subst e;have:=h.lS k hi;rw [h2] at this;cases this),?_,h.jlt,h.lS,h.olt,h.Wv fun k ho=>hblk k (hOb k ho),h.ij,?_,h.size,h.defers,h.om,h.ob,hbo,fun i=>ah.ext e _ _ (h.slots i),?_,?_⟩
 ·refine⟨h.below.os,h.below.tape,h.below.output,by rw [hsz];exact h.below.size,fun k hk hm hB=>?_,h.below.cell.trans (Turned.same fun k o hm=>World.cell?_of_block (hblk k (hOb k hm.1))),fun k hm ht=>(h.below.thaw k hm ht).same (hblk k (hOb k hm.1)),h.below.drawn⟩
  rw [hblk k (fun e=>by subst e;exact hb.1.elim (fun h=>by omega) hB)]
  exact h.below.wH k hk hm hB
 ·intro k hi;rw [hsz];exact h.ilt k hi
 ·intro k hi;rw [hsz];exact h.wlt k hi
 ·intro d' g' cells' hd'
  by_cases hdd:d'=d
  ·subst hdd
   rw [eD] at hd';cases hd'
   refine⟨b,cs',E,h1,h2,hself,ak.ext e _ _ (ak.all2.2 ?_),?_⟩
   ·rw [← hcs',splice,OB]
    exact ((ak.all2.1 h4).take off |>.append (ak.all2.1 hnew)).append ((ak.all2.1 h4).drop _)
   ·intro u hu
    rw [← hcs'] at hu
    simp only [List.mem_append] at hu
    rcases hu with (hu|hu)|hu
    ·exact h5 u (List.mem_of_mem_take hu)
    ·exact hn u hu
    ·exact h5 u (List.mem_of_mem_drop hu)
  ·rw [fG s g _ hdd] at hd'
   obtain⟨b',cs2,E',k1,k2,k3,k4,k5⟩:=h.kX d' g' cells' hd'
   refine⟨b',cs2,E',k1,k2,?_,ak.ext e _ _ k4,k5⟩
   rw [hblk b' (fun e=>by subst e;rw [h2] at k2;cases k2;exact hdd rfl)]
   exact k3
 ·intro τ t ht
  obtain⟨v,k1,k2,k3⟩:=h.toks τ t ht
  refine⟨v,k1,fun hf=>⟨(k2 hf).1.mono (fun _ hi=>hi) hcell,(k2 hf).2.1,(k2 hf).2.2.keep (fun _ h=>h) (fun _ _ h=>h) fun k hi=>hblk k (fun e=>by subst e;have:=h.lS k hi;rw [h2] at this;cases this)⟩,fun hf=>?_⟩
  obtain⟨k4,kgd,xs,k5,k6,k7,k8,k9⟩:=k3 hf
  refine⟨k4,kgd,xs,?_,k6.mono (fun _ hi=>hi) hcell,k7,k8,k9.keep (fun _ h=>h) (fun _ _ h=>h) hcell⟩
  refine k5.kept (row:=some b) ⟨rfl,rfl,rfl,by omega,fun k _ hk=>hblk k (fun e=>hk (by rw [e]))⟩ ?_
  cases hub:v.ownBlock with
  |none=>exact .inl rfl
  |some k=>
   refine .inr fun e=>?_
   cases e
   have:=k7 b hub
   rw [h2] at this;cases this
theorem Mk (s:St) (τ:Nat) (t u:Tok):(s.aU τ t).aU τ u=s.aU τ u:=by
 simp only [St.aU]
 congr 1
 funext i
 cases Nat.beq i τ<;>rfl
theorem KL {s:St} {τ:Nat} {t:Tok} (h:s.tok τ=some t):s.aU τ t=s:=by
 simp only [St.aU]
 congr 1
 funext i
 by_cases hi:i=τ
 ·subst hi;simp [h]
 ·simp [rX hi]
theorem Gam.take (h:Gam T L w0 I0 s a w c) {τ σ:Nat} {t:Tok} (ht:s.tok σ=some t) (hne:σ≠τ):
  ∃c',Gam T L w0 I0 (s.aU σ { t with lin:=false }) a w c'∧Ext L c s.tok s.mem w c' (s.aU σ { t with lin:=false }).tok s.mem w∧c'.I=c.I∧c'.ω=c.ω∧c'.who=c.who∧
   (∀b,c.lin b=some σ→c'.lin b=some τ)∧(∀b ρ,ρ≠σ→c.lin b=some ρ→c'.lin b=some ρ):=by
 let wJ:Nat→Option Nat:=fun b=>if c.lin b=some σ then some τ else c.lin b
 have hl:∀b ρ,ρ≠σ→c.lin b=some ρ→wJ b=some ρ:=fun b ρ hr hb=>by
  simp only [wJ,hb]
  rw [if_neg (fun e=>hr (Option.some.inj e))]
 let c':Cx:={ c with lin:=wJ }
 have e:Ext L c s.tok s.mem w c' (s.aU σ { t with lin:=false }).tok s.mem w:=by
  refine⟨fun _ h=>h,fun _ h=>h,rfl,rfl,rfl,rfl,fun _ _ _=>rfl,fun _ _ _ _=>rfl,fun _=>Turned.refl _ _,fun ρ t' ht'=>?_,fun d g cells hd=>⟨g,cells,hd,Nat.le_refl _,fun _=>rfl⟩⟩
  by_cases hs:ρ=σ
  ·subst hs
   rw [ht] at ht';cases ht'
   exact⟨_,dS s ρ _,Nat.le_refl _,fun _=>⟨rfl,rfl⟩⟩
  ·exact⟨t',by rw [iB s _ hs];exact ht',Nat.le_refl _,fun _=>⟨rfl,rfl⟩⟩
 refine⟨c',⟨h.below,h.wI,h.AA,h.ilt,h.jlt,h.lS,h.olt,h.ofz,h.ij,h.wlt,h.size,h.defers,h.om,h.ob,h.bo.eq (fun _=>.inl rfl) rfl rfl rfl,fun i=>ah.ext e _ _ (h.slots i),fun d g cells hd=>?_,fun ρ t' ht'=>?_⟩,e,rfl,rfl,rfl,fun b hb=>by simp only [c',wJ,if_pos hb],hl⟩
 ·obtain⟨b,cs,E,k1,k2,k3,k4,k5⟩:=h.kX d g cells hd
  exact⟨b,cs,E,k1,k2,k3,ak.ext e _ _ k4,k5⟩
 ·by_cases hs:ρ=σ
  ·subst hs
   rw [dS] at ht';cases ht'
   obtain⟨u,k1,k2,k3⟩:=h.toks ρ t ht
   exact⟨u,k1,fun hf=>⟨(k2 hf).1,(k2 hf).2.1,nofun⟩,fun hf=>by
    obtain⟨k4,kgd,ys,k5,k6,k7,k8,_⟩:=k3 hf
    exact⟨k4,kgd,ys,k5,k6,k7,k8,nofun⟩⟩
  ·rw [iB s _ hs] at ht'
   obtain⟨u,k1,k2,k3⟩:=h.toks ρ t' ht'
   exact⟨u,k1,fun hf=>⟨(k2 hf).1,(k2 hf).2.1,(k2 hf).2.2.keep (fun _ h=>h) (fun b _ hb=>hl b ρ hs hb) (fun _ _=>rfl)⟩,fun hf=>by
    obtain⟨k4,kgd,ys,k5,k6,k7,k8,k9⟩:=k3 hf
    exact⟨k4,kgd,ys,k5,k6,k7,k8,k9.keep (fun _ h=>h) (fun b _ hb=>hl b ρ hs hb) (fun _ _ _=>rfl)⟩⟩
theorem Gam.ZN (h:Gam T L w0 I0 s a w c) (τ:Nat) (bs:List Nat) (hb:∀b∈bs,w0.heap.size≤b∧b < w.heap.size∧qR w b∧c.who b=none∧¬ c.I b):
  ∃c',Gam T L w0 I0 s a w c'∧Ext L c s.tok s.mem w c' s.tok s.mem w∧(∀b,c'.I b↔c.I b∨b∈bs)∧c'.ω=c.ω∧c'.who=c.who∧(∀b∈bs,c'.lin b=some τ):=by
 let wJ:Nat→Option Nat:=fun b=>if b∈bs then some τ else c.lin b
 have hl:∀b ρ,c.I b→c.lin b=some ρ→wJ b=some ρ:=fun b ρ hi hr=>by
  simp only [wJ]
  rw [if_neg fun hm=>(hb b hm).2.2.2.2 hi];exact hr
 let c':Cx:={ c with I:=fun b=>c.I b∨b∈bs,lin:=wJ }
 have e:Ext L c s.tok s.mem w c' s.tok s.mem w:=⟨fun _ h=>.inl h,fun _ h=>h,rfl,rfl,rfl,rfl,fun _ _ _=>rfl,fun _ _ _ _=>rfl,fun _=>Turned.refl _ _,fun ρ t' ht'=>⟨t',ht',Nat.le_refl _,fun _=>⟨rfl,rfl⟩⟩,fun d g cells hd=>⟨g,cells,hd,Nat.le_refl _,fun _=>rfl⟩⟩
 refine⟨c',⟨h.below,fun b hi=>.inl (h.wI b hi),?_,?_,h.jlt,?_,h.olt,h.ofz,?_,h.wlt,h.size,h.defers,h.om,h.ob,h.bo.eq (fun _=>.inl rfl) rfl rfl rfl,fun i=>ah.ext e _ _ (h.slots i),fun d g cells hd=>?_,fun ρ t' ht'=>?_⟩,e,fun _=>Iff.rfl,rfl,rfl,fun b hm=>by simp only [c',wJ,if_pos hm]⟩
 ·rintro b (hi|hi)
  ·exact h.AA b hi
  ·exact .inr ⟨(hb b hi).1,(hb b hi).2.2.1⟩
 ·rintro b (hi|hi)
  ·exact h.ilt b hi
  ·exact (hb b hi).2.1
 ·rintro b (hi|hi)
  ·exact h.lS b hi
  ·exact (hb b hi).2.2.2.1
 ·rintro hm b ((hi|hi)|hi) ho
  ·exact h.ij hm b (.inl hi) ho
  ·have:=h.olt b ho;have:=(hb b hi).1;omega
  ·exact h.ij hm b (.inr hi) ho
 ·obtain⟨b,cs,E,k1,k2,k3,k4,k5⟩:=h.kX d g cells hd
  exact⟨b,cs,E,k1,k2,k3,ak.ext e _ _ k4,k5⟩
 ·obtain⟨u,k1,k2,k3⟩:=h.toks ρ t' ht'
  exact⟨u,k1,fun hf=>⟨(k2 hf).1.mono (fun _ h=>.inl h) (fun _ _ _=>rfl),(k2 hf).2.1,(k2 hf).2.2.keep (fun _ h=>.inl h) (fun b hi=>hl b ρ hi) (fun _ _=>rfl)⟩,fun hf=>by
   obtain⟨k4,kgd,ys,k5,k6,k7,k8,k9⟩:=k3 hf
   exact⟨k4,kgd,ys,k5,k6.mono (fun _ h=>.inl h) (fun _ _ _=>rfl),k7,k8,k9.keep (fun _ h=>.inl h) (fun b hi=>hl b ρ hi) (fun _ _ _=>rfl)⟩⟩
end
open Go.RowKit
def zN (I:Nat→Prop) (w:World) (L:Nat):SV→Value→Prop
 | .data a,v=>aI I w L a v
 | .aj,v=>v= .slice none 0 0
 |_,_=>False
def nk (I J O:Nat→Prop) (mt:Bool) (w:World) (L:Nat):AR→Value→Prop
 | .d a,v=>aI I w L a v
 | .ref a,v=>qQ I J w L a v
 | .old a,v=>a.mdv mt=true∧aI O w L a v
 | .fn f caps,v=>∃vs:List Value,v= .func (.func f) #[] vs.toArray∧aS (qQ I J w L) caps vs
 | .bx cells,v=>∃(b:Nat) (cs:List Value) (E:TypeId),v= .pointer (some ⟨b,0,none⟩)∧w.heap[b]? =some (.cells (List.toArray cs) E (0,0))∧aS (zN I w L) cells cs∧gX cs∧¬ I b∧¬ J b∧¬ O b
section
variable (T:Nat→Ty) (L base:Nat) (us:List Value) (I:Nat→Prop) (w:World)
mutual
def eF:RV→Value→List Nat→Prop
 | .d a,v,bs=>bs= []∧aI I w L a v
 | .aj,v,bs=>bs= []∧v= .slice none 0 0
 | .junk,v,bs=>bs= []
 | .eff _ _ _,_,_=>False
 | .ptr _,_,_=>False
 | .fr l,v,bs=>bs= []∧aI I w L (.sl l) v∧∀b,v.ownBlock=some b→base≤b
 | .own E l,v,bs=>bs=v.ownBlock.toList∧l.length≤L∧(T E).good=true∧(∀x∈l,bO (T E).zero x.cells=true)∧∃xs,w.ownsRow base E (T E).size v l.length xs∧bq I w L (T E).size l xs
 | .lin E l,v,bs=>l.length≤L∧(T E).good=true∧(∀x∈l,bO (T E).zero x.cells=true)∧∃xs bs',bs=v.ownBlock.toList++bs'∧w.ownsRow base E (T E).size v l.length xs∧bq (fun b=>b∈bs') w L (T E).size l xs∧dL w (T E).size l xs bs'∧∀b∈bs',qR w b
 | .agg l,v,bs=>∃vs:List Value,v= .agg vs.toArray∧jJ l vs bs∧gX vs
 | .tup l,v,bs=>∃vs:List Value,v= .tuple vs.toArray∧jJ l vs bs
 | .arg i off n,v,bs=>bs= []∧∃cs:List Value,us[i]? =some (.agg cs.toArray)∧v= .agg ((cs.drop off).take n).toArray
def jJ:List RV→List Value→List Nat→Prop
 |[],vs,bs=>vs= []∧bs= []
 |r::rs,vs,bs=>∃u us b1 b2,vs=u::us∧bs=b1++b2∧eF r u b1∧jJ rs us b2
end
end
def Post (T:Nat→Ty) (L:Nat) (I M:Nat→Prop) (w:World) (us:List Value) (r:RV) (e:Ending) (w':World):Prop:=
 match r with
 | .eff i r' cs=>∃v,e= .returned v∧∃b,us[i]? =some (.pointer (some ⟨b,0,none⟩))∧Turn M w w' (fun k=>k=b)∧∃(I':Nat→Prop) (bs:List Nat) (vs:List Value) (E:TypeId),(∀b,I b→I' b)∧(∀b,I' b→I b∨(w.heap.size≤b∧b < w'.heap.size∧qR w' b))∧
  bs.Nodup∧(∀b∈bs,¬ I' b∧w.heap.size≤b∧b < w'.heap.size)∧w'.heap[b]? =some (.cells (List.toArray vs) E (0,0))∧gX vs∧jJ T L w.heap.size us I' w' (r'::cs) (v::vs) bs
 | .ptr cs=>∃b,e= .returned (.pointer (some ⟨b,0,none⟩))∧Turn M w w'∧∃(I':Nat→Prop) (vs:List Value) (E:TypeId),(∀b,I b→I' b)∧(∀b,I' b→I b∨(w.heap.size≤b∧b < w'.heap.size∧qR w' b))∧
  ¬ I' b∧w.heap.size≤b∧w'.heap[b]? =some (.cells (List.toArray vs) E (0,0))∧gX vs∧aS (aI I' w' L) cs vs
 |r=>∃v,e= .returned v∧Turn M w w'∧∃(I':Nat→Prop) (bs:List Nat),(∀b,I b→I' b)∧(∀b,I' b→I b∨(w.heap.size≤b∧b < w'.heap.size∧qR w' b))∧
  bs.Nodup∧(∀b∈bs,¬ I' b∧w.heap.size≤b∧b < w'.heap.size)∧eF T L w.heap.size us I' w' r v bs
theorem GY {T:Nat→Ty} {L:Nat} {I M:Nat→Prop} {w:World} {us:List Value} {r:RV} {e:Ending} {w':World} (h:r.wF=false):Post T L I M w us r e w'=
   (∃v,e= .returned v∧Turn M w w'∧∃(I':Nat→Prop) (bs:List Nat),(∀b,I b→I' b)∧(∀b,I' b→I b∨(w.heap.size≤b∧b < w'.heap.size∧qR w' b))∧
    bs.Nodup∧(∀b∈bs,¬ I' b∧w.heap.size≤b∧b < w'.heap.size)∧eF T L w.heap.size us I' w' r v bs):=by
  cases r<;>first|rfl|cases h
def Contract (P:Program) (T:Nat→Ty) (L f:Nat) (args:List AR) (r:RV):Prop:=
 (∀(vs:Array Value) (w:World),(callFunc f vs).run P w= .ok (.enter f vs) w)∧
 ∀(I J O:Nat→Prop) (mt:Bool) (w:World) (vs:List Value),(∀b,I b→b < w.heap.size)→(∀b,J b→b < w.heap.size)→(∀b,O b→b < w.heap.size)→(mt=true→∀b,O b→qR w b)→(mt=true→∀b,I b∨J b→¬ O b)→aS (nk I J O mt w L) args vs→Calls P f vs.toArray w (Post T L I (fun b=>O b∧mt=true) w vs r)
section
variable {I J:Nat→Prop} {w:World} {L:Nat}
mutual
theorem aG.wf:∀(a:AV) (v:Value),aG I w L a v→AV.wf L a
 | .bool _,_,_=>by simp [AV.wf]
 | .int _ _,_,_=>by simp [AV.wf]
 | .str _,_,_=>by simp [AV.wf]
 | .any,_,_=>by simp [AV.wf]
 | .sl l,v,h=>by
  simp only [aG] at h
  obtain⟨a,cap,_,h1,_,h3⟩:=h
  simp only [AV.wf]
  refine⟨h1,?_⟩
  rcases h3 with h3|⟨b,o,sz,_,_,h4⟩
  ·rw [List.eq_nil_of_length_eq_zero h3];simp [AV.wfs]
  ·exact cB.wf b sz l o h4
 | .agg _,_,h=>by simp [aG] at h
theorem cB.wf (b sz:Nat):∀(l:List AV) (o:Nat),cB I w L b sz l o→AV.wfs L l
 |[],_,_=>by simp [AV.wfs]
 |x::xs,o,h=>by
  simp only [cB] at h
  simp only [AV.wfs]
  exact⟨iw.wf b sz x o h.1,cB.wf b sz xs _ h.2⟩
theorem iw.wf (b sz:Nat):∀(x:AV) (o:Nat),iw I w L b sz x o→AV.wf L x
 | .agg l,o,h=>by simp only [iw] at h;simp only [AV.wf];exact bV.wf b l o h.2
 | .bool _,_,_=>by simp [AV.wf]
 | .int _ _,_,_=>by simp [AV.wf]
 | .str _,_,_=>by simp [AV.wf]
 | .any,_,_=>by simp [AV.wf]
 | .sl l,o,h=>by
  simp only [iw] at h
  obtain⟨_,v,_,a,cap,_,h1,_,h3⟩:=h
  simp only [AV.wf]
  refine⟨h1,?_⟩
  rcases h3 with h3|⟨b,o,sz,_,_,h4⟩
  ·rw [List.eq_nil_of_length_eq_zero h3];simp [AV.wfs]
  ·exact cB.wf b sz l o h4
theorem bV.wf (b:Nat):∀(l:List AV) (o:Nat),bV I w L b l o→AV.wfs L l
 |[],_,_=>by simp [AV.wfs]
 |x::xs,o,h=>by
  simp only [bV] at h
  obtain⟨⟨v,_,h2⟩,h3⟩:=h
  simp only [AV.wfs]
  exact⟨aG.wf x v h2,bV.wf b xs _ h3⟩
end
theorem aS.wfs:∀{l:List AV} {vs:List Value},aS (aG I w L) l vs→AV.wfs L l
 |[],[],_=>by simp [AV.wfs]
 |x::xs,_::_,h=>by simp only [AV.wfs];exact⟨aG.wf x _ h.1,aS.wfs h.2⟩
 |[],_::_,h=>h.elim
 |_::_,[],h=>h.elim
theorem aI.wf {a:AV} {v:Value} (h:aI I w L a v):AV.wf L a:=by
 cases a with
 |agg l=>obtain⟨cs,_,h2⟩:=h;simp only [AV.wf];exact h2.wfs
 |sl l=>exact aG.wf _ _ h
 |bool b=>simp [AV.wf]
 |int k n=>simp [AV.wf]
 |str s=>simp [AV.wf]
 |any=>simp [AV.wf]
theorem qQ.wf {a:AV} {v:Value} (h:qQ I J w L a v):AV.wfs L a.cells:=by
 obtain⟨b,o,_,_,h3⟩:=h
 exact bV.wf b _ _ h3
end
def RV.wf (L:Nat):RV→Prop
 | .d a=>a.wf L
 | .fr l=>AV.wf L (.sl l)
 |_=>True
def UR (L:Nat):List SV→Prop
 |[]=>True
 | .data a::r=>a.wf L∧UR L r
 |_::r=>UR L r
def AR.wf (L:Nat):AR→Prop
 | .d a=>a.wf L
 | .ref a=>AV.wfs L a.cells
 | .old a=>a.wf L
 | .fn _ _=>True
 | .bx cells=>UR L cells
def ARs.wf (L:Nat):List AR→Prop
 |[]=>True
 |x::xs=>AR.wf L x∧ARs.wf L xs
theorem zN.wfs {I:Nat→Prop} {w:World} {L:Nat}:∀{l:List SV} {vs:List Value},aS (zN I w L) l vs→UR L l
 |[],[],_=>trivial
 |x::xs,_::_,h=>by
  have ih:=zN.wfs h.2
  have h1:=h.1
  cases x with
  |data a=>exact⟨aI.wf h1,ih⟩
  |_=>exact ih
 |[],_::_,h=>h.elim
 |_::_,[],h=>h.elim
theorem zN.mono {I I':Nat→Prop} {w:World} {L:Nat} (hI:∀b,I b→I' b) {x:SV} {v:Value} (h:zN I w L x v):zN I' w L x v:=by
 cases x with
 |data a=>exact aI.mono hI (fun _ _ _=>rfl) h
 |aj=>exact h
 |_=>exact h.elim
theorem nk.wfs {I J O:Nat→Prop} {mt:Bool} {w:World} {L:Nat}:∀{l:List AR} {vs:List Value},aS (nk I J O mt w L) l vs→ARs.wf L l
 |[],[],_=>by simp [ARs.wf]
 |x::xs,v::_,h=>by
  simp only [ARs.wf]
  refine⟨?_,nk.wfs h.2⟩
  cases x with
  |d a=>exact aI.wf h.1
  |ref a=>exact qQ.wf h.1
  |old a=>exact aI.wf h.1.2
  |fn f caps=>trivial
  |bx cells=>obtain⟨b,cs,E,_,_,h4,_⟩:=h.1;exact zN.wfs h4
 |[],_::_,h=>h.elim
 |_::_,[],h=>h.elim
inductive jK (P:Program) (T:Nat→Ty) (L f:Nat) (args:List AR) (K:RV→Prop):Prop
 |mk (r:RV) (h:Contract P T L f args r) (k:r.wf L→K r)
section
variable {T:Nat→Ty} {L:Nat} {w0:World} {I0:Bs} {a:Act} {w:World}
theorem qX {s:St} {c:Cx} {x:SV} {v:Value} {K:AV→St→Prop} (h:Gam T L w0 I0 s a w c) (hx:ah T c s.tok s.mem w L x v) (he:erase s x K):
  ∃b s' c',K b s'∧Gam T L w0 I0 s' a w c'∧Ext L c s.tok s.mem w c' s'.tok s'.mem w∧aI c'.I w L b v:=by
 cases x with
 |data b=>exact⟨b,s,c,he,h,Ext.refl _ _ _ _ _,by simpa [ah] using hx⟩
 |aj=>
  refine⟨.sl [],s,c,he,h,Ext.refl _ _ _ _ _,?_⟩
  simp only [ah] at hx
  subst hx
  simp only [aI,aG]
  exact⟨none,0,rfl,Nat.zero_le _,Nat.le_refl _,.inl rfl⟩
 |fr l=>
  simp only [ah] at hx
  exact⟨.sl l,s,c,he,h,Ext.refl _ _ _ _ _,hx.1⟩
 |argv i j b=>
  simp only [ah] at hx
  exact⟨b,s,c,he,h,Ext.refl _ _ _ _ _,hx.1⟩
 |own τ g=>
  simp only [erase] at he
  cases ht:s.tok τ with
  |none=>simp [ht] at he
  |some t=>
   simp only [ht] at he
   cases hg:Nat.beq t.gen g with
   |false=>simp [hg] at he
   |true=>
    simp only [hg,cond_true] at he
    have hgg:=Nat.eq_of_beq_eq_true hg
    simp only [ah] at hx
    obtain⟨t',h1,h2,h3⟩:=hx
    rw [ht] at h1;cases h1
    obtain⟨c',u,k1,k2,k3,k4⟩:=h.freeze ht
    rw [h3 hgg.symm] at k3;cases k3
    exact⟨_,_,c',he,k1,k2,k4⟩
 |_=>simp [erase] at he
theorem aI.UU {I:Nat→Prop} {b:AV} {v:Value} (h:aI I w L b v) (hv:v.oneCell'=true):aG I w L b v:=by
 cases b with
 |agg l=>obtain⟨cs,rfl,_⟩:=h;simp [Value.oneCell'] at hv
 |sl l=>exact h
 |bool b=>simpa [aG,aI] using h
 |int k n=>simpa [aG,aI] using h
 |str s=>simpa [aG,aI] using h
 |any=>simpa [aG,aI] using h
theorem uE {s:St} {c:Cx}:∀{l:List SV} {vs:List Value} {K:List AV→St→Prop},Gam T L w0 I0 s a w c→ak T c s.tok s.mem w L l vs→mG s l K→
  ∃bs s' c',K bs s'∧Gam T L w0 I0 s' a w c'∧Ext L c s.tok s.mem w c' s'.tok s'.mem w∧aS (aI c'.I w L) bs vs:=by
 intro l
 induction l generalizing s c with
 |nil=>
  intro vs K h hl he
  simp only [ak] at hl;subst hl
  exact⟨[],s,c,he,h,Ext.refl _ _ _ _ _,trivial⟩
 |cons x xs ih=>
  intro vs K h hl he
  simp only [ak] at hl
  obtain⟨u,us,rfl,h2,h3⟩:=hl
  simp only [mG] at he
  obtain⟨b,s1,c1,k1,k2,k3,k4⟩:=qX h h2 he
  obtain⟨bs,s2,c2,m1,m2,m3,m4⟩:=ih k2 (ak.ext k3 _ _ h3) k1
  exact⟨b::bs,s2,c2,m1,m2,k3.trans m3,k4.mono m3.hI m3.hwI,m4⟩
theorem aS.ones {I:Nat→Prop}:∀{bs:List AV} {vs:List Value},aS (aI I w L) bs vs→gX vs→aS (aG I w L) bs vs
 |[],[],_,_=>trivial
 |_::_,v::_,h,hn=>⟨aI.UU h.1 (hn v (by simp)),aS.ones h.2 (fun u hu=>hn u (by simp [hu]))⟩
 |[],_::_,h,_=>h.elim
 |_::_,[],h,_=>h.elim
theorem pq {s:St} {c:Cx} {x:SV} {v:Value} {K:AV→St→Prop} (h:Gam T L w0 I0 s a w c) (hx:ah T c s.tok s.mem w L x v) (he:mZ s x K):
  ∃b s' c',K b s'∧Gam T L w0 I0 s' a w c'∧Ext L c s.tok s.mem w c' s'.tok s'.mem w∧aI c'.I w L b v:=by
 cases x with
 |iF l=>
  simp only [mZ] at he
  simp only [ah] at hx
  obtain⟨vs,rfl,h2,h3⟩:=hx
  obtain⟨bs,s',c',k1,k2,k3,k4⟩:=uE h h2 he
  exact⟨.agg bs,s',c',k1,k2,k3,vs,rfl,k4.ones h3⟩
 |_=>exact qX h hx (by simpa only [mZ] using he)
theorem Ww {base:Nat} {E:TypeId} {sz:Nat} {v:Value} {l:List AV} {xs:List Value} {bs:List Nat} (h:w.ownsRow base E sz v l.length xs) (k:dL w sz l xs bs):oH w (.sl l) v (v.ownBlock.toList++bs):=by
 simp only [oH]
 rcases h.2 with⟨rfl,h0⟩|⟨b,cap,cur,rfl,hb,hg,hc,hm,hs,ht⟩
 ·have:l= []:=List.eq_nil_of_length_eq_zero h0
  subst this
  obtain⟨_,rfl⟩:=k
  exact .inl ⟨rfl,rfl⟩
 ·refine .inr ⟨b,0,sz,l.length,cap,bs,rfl,rfl,k.lies fun j u hu=>?_⟩
  have:=h.cells (g:=b) rfl j u hu
  rw [Addr.add_lit] at this
  simpa using this
def oI (τ base:Nat) (c d:Cx) (bs:List Nat):Prop:=bs.Nodup∧∀b∈bs,d.I b∧d.lin b=some τ∧base≤b∧¬(c.I b∧c.lin b=some τ)
def Kept (τ:Nat) (c d:Cx):Prop:=∀b,c.I b→c.lin b=some τ→d.lin b=some τ
theorem Kept.refl (τ:Nat) (c:Cx):Kept τ c c:=fun _ _ h=>h
theorem oI.nil (τ base:Nat) (c d:Cx):oI τ base c d []:=⟨List.nodup_nil,fun b hb=>by simp at hb⟩
theorem oI.append {τ base:Nat} {c d e:Cx} {b1 b2:List Nat} (h:oI τ base c d b1) (k:oI τ base d e b2) (h1:∀b,c.I b→d.I b) (h2:∀b,d.I b→e.I b) (k1:Kept τ c d) (k2:Kept τ d e):oI τ base c e (b1++b2):=by
 refine⟨List.nodup_append.2 ⟨h.1,k.1,fun x hx y hy he=>?_⟩,fun b hb=>?_⟩
 ·subst he
  exact (k.2 x hy).2.2.2 ⟨(h.2 x hx).1,(h.2 x hx).2.1⟩
 ·rcases List.mem_append.1 hb with hb|hb
  ·obtain⟨a1,a2,a3,a4⟩:=h.2 b hb
   exact⟨h2 b a1,k2 b a1 a2,a3,a4⟩
  ·obtain⟨a1,a2,a3,a4⟩:=k.2 b hb
   exact⟨a1,a2,a3,fun hc=>a4 ⟨h1 b hc.1,k1 b hc.1 hc.2⟩⟩
theorem EK {s:St} {c:Cx} {τ:Nat} {x:SV} {v:Value} {K:AV→Bool→St→Prop} (h:Gam T L w0 I0 s a w c) (hx:ah T c s.tok s.mem w L x v) (he:take1 τ s x K):
  ∃b q s' c',K b q s'∧Gam T L w0 I0 s' a w c'∧Ext L c s.tok s.mem w c' s'.tok s'.mem w∧aI c'.I w L b v∧Kept τ c c'∧(q=true→∃bs,oH w b v bs∧oI τ w0.heap.size c c' bs):=by
 cases x with
 |data b=>exact⟨b,_,s,c,he,h,Ext.refl _ _ _ _ _,by simpa [ah] using hx,Kept.refl _ _,fun hq=>⟨[],KJ hq,oI.nil _ _ _ _⟩⟩
 |aj=>
  refine⟨.sl [],_,s,c,he,h,Ext.refl _ _ _ _ _,?_,Kept.refl _ _,fun _=>⟨[],.inl ⟨rfl,rfl⟩,oI.nil _ _ _ _⟩⟩
  simp only [ah] at hx
  subst hx
  simp only [aI,aG]
  exact⟨none,0,rfl,Nat.zero_le _,Nat.le_refl _,.inl rfl⟩
 |fr l=>
  simp only [ah] at hx
  exact⟨.sl l,_,s,c,he,h,Ext.refl _ _ _ _ _,hx.1,Kept.refl _ _,nofun⟩
 |own σ g=>
  simp only [take1] at he
  cases ht:s.tok σ with
  |none=>simp [ht] at he
  |some t=>
   simp only [ht] at he
   cases hg:Nat.beq t.gen g with
   |false=>simp [hg] at he
   |true=>
    simp only [hg,cond_true] at he
    have hgg:=Nat.eq_of_beq_eq_true hg
    simp only [ah] at hx
    obtain⟨t',h1,h2,h3⟩:=hx
    rw [ht] at h1;cases h1
    obtain⟨c1,u,k1,k2,k3,k4,k5,k6⟩:=h.SI ht
    rw [h3 hgg.symm] at k3;cases k3
    by_cases hst:σ=τ
    ·subst hst
     simp only [Nat.beq_refl,Bool.and_true,Bool.not_true,Bool.and_false] at he
     exact⟨_,_,_,c1,he,k1,k2,k4,k5 σ,nofun⟩
    ·rw [rX hst] at he
     simp only [Bool.and_false,Bool.not_false,Bool.and_true] at he
     obtain⟨c2,m1,m2,m3,m4,m5,m6,m7⟩:=k1.take (τ:=τ) (dS s σ _) hst
     rw [Mk] at m1 m2
     refine⟨_,_,_,c2,he,m1,k2.trans m2,by rw [m3];exact k4,fun b hb hl=>m7 b τ (Ne.symm hst) (k5 τ b hb hl),fun hq=>?_⟩
     obtain⟨_,_,xs,bs,n1,_,n2,n3,n4⟩:=k6 hq
     refine⟨v.ownBlock.toList++bs,Ww n1 n2,n3,fun b hb=>?_⟩
     obtain⟨j1,j2,j3⟩:=n4 b hb
     refine⟨by rw [m3];exact j1,m6 b j2,j3,fun hc=>?_⟩
     have:=k5 τ b hc.1 hc.2
     rw [j2] at this
     exact hst (Option.some.inj this)
 |_=>simp [take1] at he
theorem UW {s:St} {c:Cx} {τ:Nat} {x:SV} {v:Value} {K:AV→Bool→St→Prop} (h:Gam T L w0 I0 s a w c) (hx:ah T c s.tok s.mem w L x v) (he:take1 τ s x K) (hd:∀b,x≠.data b):
  ∃b q s' c',K b q s'∧Gam T L w0 I0 s' a w c'∧Ext L c s.tok s.mem w c' s'.tok s'.mem w∧aI c'.I w L b v∧Kept τ c c'∧(q=true→∃bs,oH w b v bs∧oI τ w0.heap.size c c' bs)∧∃l,b= .sl l:=by
 have he':take1 τ s x (fun b q s'=>K b q s'∧∃l,b= .sl l):=by
  cases x with
  |data b=>exact absurd rfl (hd b)
  |aj=>exact⟨he,_,rfl⟩
  |fr l=>exact⟨he,_,rfl⟩
  |own σ g=>
   simp only [take1] at he ⊢
   cases ht:s.tok σ with
   |none=>simp [ht] at he
   |some t=>
    simp only [ht] at he ⊢
    cases hg:Nat.beq t.gen g with
    |false=>simp [hg] at he
    |true=>simp only [hg,cond_true] at he ⊢;exact⟨he,_,rfl⟩
  |_=>simp [take1] at he
 obtain⟨b,q,s',c',⟨k1,l,k0⟩,k2,k3,k4,k5,k6⟩:=EK h hx he'
 exact⟨b,q,s',c',k1,k2,k3,k4,k5,k6,l,k0⟩
theorem OC {s:St} {c:Cx} {τ:Nat}:∀{l:List SV} {vs:List Value} {K:List AV→Bool→St→Prop},Gam T L w0 I0 s a w c→ak T c s.tok s.mem w L l vs→yV τ s l K→
  ∃bs q s' c',K bs q s'∧Gam T L w0 I0 s' a w c'∧Ext L c s.tok s.mem w c' s'.tok s'.mem w∧aS (aI c'.I w L) bs vs∧Kept τ c c'∧(q=true→∃ls,iW w bs vs ls∧oI τ w0.heap.size c c' ls):=by
 intro l
 induction l generalizing s c with
 |nil=>
  intro vs K h hl he
  simp only [ak] at hl;subst hl
  exact⟨[],true,s,c,he,h,Ext.refl _ _ _ _ _,trivial,Kept.refl _ _,fun _=>⟨[],⟨rfl,rfl⟩,oI.nil _ _ _ _⟩⟩
 |cons x xs ih=>
  intro vs K h hl he
  simp only [ak] at hl
  obtain⟨u,us,rfl,h2,h3⟩:=hl
  simp only [yV] at he
  obtain⟨b,q1,s1,c1,k1,k2,k3,k4,k5,k6⟩:=EK h h2 he
  obtain⟨bs,q2,s2,c2,m1,m2,m3,m4,m5,m6⟩:=ih k2 (ak.ext k3 _ _ h3) k1
  refine⟨b::bs,_,s2,c2,m1,m2,k3.trans m3,⟨k4.mono m3.hI m3.hwI,m4⟩,fun b hb hl=>m5 b (k3.hI b hb) (k5 b hb hl),fun hq=>?_⟩
  simp only [Bool.and_eq_true] at hq
  obtain⟨l1,n1,n2⟩:=k6 hq.1
  obtain⟨l2,n3,n4⟩:=m6 hq.2
  exact⟨l1++l2,⟨u,us,l1,l2,rfl,rfl,n1,n3⟩,n2.append n4 k3.hI m3.hI k5 m5⟩
theorem EL {s:St} {c:Cx} {τ:Nat} {x:SV} {v:Value} {K:AV→Bool→St→Prop} (h:Gam T L w0 I0 s a w c) (hx:ah T c s.tok s.mem w L x v) (he:qW τ s x K):
  ∃b q s' c',K b q s'∧Gam T L w0 I0 s' a w c'∧Ext L c s.tok s.mem w c' s'.tok s'.mem w∧aI c'.I w L b v∧Kept τ c c'∧(q=true→∃bs,iW w b.cells v.cells.toList bs∧oI τ w0.heap.size c c' bs):=by
 cases x with
 |iF l=>
  simp only [qW] at he
  simp only [ah] at hx
  obtain⟨vs,rfl,h2,h3⟩:=hx
  obtain⟨bs,q,s',c',k1,k2,k3,k4,k5,k6⟩:=OC h h2 he
  exact⟨.agg bs,q,s',c',k1,k2,k3,⟨vs,rfl,k4.ones h3⟩,k5,fun hq=>by simpa [AV.cells,Value.cells] using k6 hq⟩
 |data b=>
  refine⟨b,b.flat,s,c,he,h,Ext.refl _ _ _ _ _,by simpa [ah] using hx,Kept.refl _ _,fun hq=>⟨[],?_,oI.nil _ _ _ _⟩⟩
  have hr:aI c.I w L b v:=by simpa [ah] using hx
  cases b with
  |agg l=>
   obtain⟨cs,rfl,hc⟩:=hr
   simp only [AV.flat] at hq
   simpa [AV.cells,Value.cells] using xZ hq hc.length.symm
  |sl l=>simp [AV.flat] at hq
  |bool b=>simp only [aI] at hr;subst hr;exact⟨_,[],[],[],rfl,rfl,rfl,rfl,rfl⟩
  |int k n=>simp only [aI] at hr;subst hr;exact⟨_,[],[],[],rfl,rfl,rfl,rfl,rfl⟩
  |str s=>simp only [aI] at hr;subst hr;exact⟨_,[],[],[],rfl,rfl,rfl,rfl,rfl⟩
  |any=>
   simp only [aI] at hr
   cases v<;>first|exact hr.elim|exact⟨_,[],[],[],rfl,rfl,rfl,rfl,rfl⟩
 |aj|fr|own=>
  obtain⟨b,q,s',c',k1,k2,k3,k4,k5,k6,l,rfl⟩:=UW h hx (by simpa only [qW] using he) nofun
  refine⟨.sl l,q,s',c',k1,k2,k3,k4,k5,fun hq=>?_⟩
  obtain⟨bs,n1,n2⟩:=k6 hq
  simp only [aI,aG] at k4
  obtain⟨ad,cap,rfl,_⟩:=k4
  exact⟨bs,⟨_,[],bs,[],rfl,by simp,n1,rfl,rfl⟩,n2⟩
 |_=>simp [qW,take1] at he
theorem KM {τ:Nat} {s:St} {x:SV} {K:AV→Bool→St→Prop} (h:take1 τ s x K):take1 τ s x fun b q s'=>K b q s'∧∀ρ t,s'.tok ρ=some t→t.frz=false→s.tok ρ=some t:=by
 cases x with
 |data b=>exact⟨h,fun _ _ h _=>h⟩
 |aj=>exact⟨h,fun _ _ h _=>h⟩
 |fr l=>exact⟨h,fun _ _ h _=>h⟩
 |own σ g=>
  simp only [take1] at h ⊢
  cases ht:s.tok σ with
  |none=>simp [ht] at h
  |some t=>
   simp only [ht] at h ⊢
   cases hg:Nat.beq t.gen g with
   |false=>simp [hg] at h
   |true=>
    simp only [hg,cond_true] at h ⊢
    refine⟨h,fun ρ t' ht' hf=>?_⟩
    by_cases hs:ρ=σ
    ·subst hs;rw [dS] at ht';cases ht';simp at hf
    ·rwa [iB s _ hs] at ht'
 |_=>simp [take1] at h
theorem GZ {τ:Nat} {s:St} {x:SV} {K K':AV→Bool→St→Prop} (h:take1 τ s x K) (hk:∀b q s',K b q s'→K' b q s'):take1 τ s x K':=by
 cases x with
 |data b=>exact hk _ _ _ h
 |aj=>exact hk _ _ _ h
 |fr l=>exact hk _ _ _ h
 |own σ g=>
  simp only [take1] at h ⊢
  cases ht:s.tok σ with
  |none=>simp [ht] at h
  |some t=>
   simp only [ht] at h ⊢
   cases hg:Nat.beq t.gen g with
   |false=>simp [hg] at h
   |true=>simp only [hg,cond_true] at h ⊢;exact hk _ _ _ h
 |_=>simp [take1] at h
theorem zO {τ:Nat}:∀{l:List SV} {s:St} {K K':List AV→Bool→St→Prop},yV τ s l K→(∀b q s',K b q s'→K' b q s')→yV τ s l K'
 |[],_,_,_,h,hk=>hk _ _ _ h
 |v::r,_,_,_,h,hk=>GZ h fun _ _ _ h1=>zO h1 fun _ _ _=>hk _ _ _
theorem KN {τ:Nat}:∀{l:List SV} {s:St} {K:List AV→Bool→St→Prop},yV τ s l K→yV τ s l fun b q s'=>K b q s'∧∀ρ t,s'.tok ρ=some t→t.frz=false→s.tok ρ=some t
 |[],_,_,h=>⟨h,fun _ _ h _=>h⟩
 |v::r,_,_,h=>GZ (KM h) fun _ _ _ h1=>zO (KN h1.1) fun _ _ _ h2=>⟨h2.1,fun ρ t ht hf=>h1.2 ρ t (h2.2 ρ t ht hf) hf⟩
theorem TT {τ:Nat} {s:St} {x:SV} {K:AV→Bool→St→Prop} (h:qW τ s x K):qW τ s x fun b q s'=>K b q s'∧∀ρ t,s'.tok ρ=some t→t.frz=false→s.tok ρ=some t:=by
 cases x with
 |iF l=>exact zO (KN (l:=l) h) fun _ _ _ h=>h
 |_=>exact KM (by simpa only [qW] using h)
theorem He {s:St} {c:Cx} {x:SV} {v:Value} {K:AV→St→Prop} (h:Gam T L w0 I0 s a w c) (hx:ah T c s.tok s.mem w L x v) (he:jf s x K):
  ∃b s' c',K b s'∧Gam T L w0 I0 s' a w c'∧Ext L c s.tok s.mem w c' s'.tok s'.mem w∧∀(J:Nat→Prop),(∀b,b < w.heap.size→¬ c.M b→J b)→qQ c'.I J w L b v:=by
 unfold jf at he
 split at he
 ·rename_i d g
  cases hm:s.mem d with
  |none=>simp [hm] at he
  |some p=>
   obtain⟨g',cells⟩:=p
   simp only [hm] at he
   cases hg:Nat.beq g' g with
   |false=>simp [hg] at he
   |true=>
    simp only [hg,cond_true] at he
    have hgg:=Nat.eq_of_beq_eq_true hg
    simp only [ah] at hx
    obtain⟨g1,wK,h1,h2,h3⟩:=hx
    rw [hm] at h1;cases h1
    obtain⟨b,hb,rfl⟩:=h3 hgg.symm
    obtain⟨b',cs,E,k1,k2,k3,k4,k5⟩:=h.kX d g' cells hm
    rw [hb] at k1;cases k1
    have hlt:=(h.wlt b (by simp [k2])).2
    have hnm:¬ c.M b:=fun hm=>by have:=h.bo.2.1 b (.inr hm.1);rw [k2] at this;cases this
    have hcell:∀j u,cs[j]? =some u→w.cell? ⟨b,j,none⟩=some u:=fun j u hu=>by
     rw [cell_of_row w b j _ _ _ k3];simpa using hu
    have hC:∀(I:Nat→Prop) (l:List AV) (us:List Value) (o:Nat),aS (aG I w L) l us→(∀j u,us[j]? =some u→w.cell? ⟨b,o+j,none⟩=some u)→bV I w L b l o:=by
     intro I l
     induction l with
     |nil=>intro us o _ _;simp [bV]
     |cons x xs ih=>
      intro us o h1 h2
      cases us with
      |nil=>exact h1.elim
      |cons y ys=>
       simp only [bV]
       exact⟨⟨y,by simpa using h2 0 y rfl,h1.1⟩,ih ys (o+1) h1.2 fun j u hu=>by
        have:=h2 (j+1) u (by simpa using hu)
        rwa [show o+(j+1)=o+1+j by omega] at this⟩
    split at he
    ·rename_i c1
     simp only [ak] at k4
     obtain⟨u,us,rfl,m2,m3⟩:=k4
     subst m3
     obtain⟨av,s',c',n1,n2,n3,n4⟩:=qX h m2 he
     have hone:=aI.UU n4 (k5 u (by simp))
     refine⟨av,s',c',n1,n2,n3,fun J hJ=>⟨b,0,rfl,.inr (hJ b hlt hnm),?_⟩⟩
     have hac:av.cells= [av]:=by cases av<;>simp [AV.cells,aG] at hone ⊢
     rw [hac]
     exact hC c'.I [av] [u] 0 ⟨hone,trivial⟩ (fun j u hu=>by simpa using hcell j u hu)
    ·obtain⟨as,s',c',n1,n2,n3,n4⟩:=uE h k4 he
     refine⟨.agg as,s',c',n1,n2,n3,fun J hJ=>⟨b,0,rfl,.inr (hJ b hlt hnm),?_⟩⟩
     exact hC c'.I as cs 0 (n4.ones k5) (fun j u hu=>by simpa using hcell j u hu)
 ·simp only [ah] at hx
  exact⟨_,s,c,he,h,Ext.refl _ _ _ _ _,fun J hJ=>qQ.ext (fun _ h=>h) (fun b hj=>.inl (hJ b (h.Mj b hj) (h.nm (.inr hj)))) (fun _ _ _=>rfl) hx⟩
 ·exact he.elim
theorem sV:∀{l:List SV} {s:St} {c:Cx} {vs:List Value} {K:List AV→St→Prop},Gam T L w0 I0 s a w c→ak T c s.tok s.mem w L l vs→iL s l K→
  ∃bs s' c',K bs s'∧Gam T L w0 I0 s' a w c'∧Ext L c s.tok s.mem w c' s'.tok s'.mem w∧∀(J:Nat→Prop),(∀b,b < w.heap.size→¬ c.M b→J b)→aS (qQ c'.I J w L) bs vs:=by
 intro l
 induction l with
 |nil=>
  intro s c vs K h hl he
  simp only [ak] at hl;subst hl
  exact⟨[],s,c,he,h,Ext.refl _ _ _ _ _,fun _ _=>trivial⟩
 |cons x xs ih=>
  intro s c vs K h hl he
  simp only [ak] at hl
  obtain⟨u,us,rfl,h2,h3⟩:=hl
  simp only [iL] at he
  obtain⟨b,s1,c1,k1,k2,k3,k4⟩:=He h h2 he
  obtain⟨bs,s2,c2,m1,m2,m3,m4⟩:=ih k2 (ak.ext k3 _ _ h3) k1
  exact⟨b::bs,s2,c2,m1,m2,k3.trans m3,fun J hJ=>⟨qQ.ext m3.hI (fun _ h=>.inl h) (fun _ _ _=>rfl) (k4 J hJ),m4 J (by rw [k3.hM];exact hJ)⟩⟩
theorem nk.ext {I I' J O O':Nat→Prop} {mt:Bool} (hI:∀b,I b→I' b) (hO:∀b,O b→O' b) {x:AR} {v:Value} (hx:x.JV=false) (h:nk I J O mt w L x v):nk I' J O' mt w L x v:=by
 cases x with
 |bx=>cases hx
 |d a=>exact aI.mono hI (fun _ _ _=>rfl) h
 |ref a=>exact qQ.ext hI (fun _ h=>.inl h) (fun _ _ _=>rfl) h
 |old a=>exact⟨h.1,aI.mono hO (fun _ _ _=>rfl) h.2⟩
 |fn f caps=>
  obtain⟨vs,h1,h2⟩:=h
  exact⟨vs,h1,h2.mono fun _ _ hu=>qQ.ext hI (fun _ h=>.inl h) (fun _ _ _=>rfl) hu⟩
def iV (T:Nat→Ty) (c:Cx) (tok:Nat→Option Tok) (mem:Nat→Option (Nat×List SV)) (J:Nat→Prop) (w:World) (L:Nat):AR→Value→Prop
 | .bx as,v=>∃(d g:Nat) (cells:List SV) (b:Nat) (cs:List Value) (E:TypeId),mem d=some (g,cells)∧ah T c tok mem w L (.box d g 0) v∧v= .pointer (some ⟨b,0,none⟩)∧w.heap[b]? =some (.cells (List.toArray cs) E (0,0))∧aS (zN c.I w L) as cs∧gX cs
 |x,v=>nk c.I J c.O c.mt w L x v
theorem iV.of {c:Cx} {tok:Nat→Option Tok} {mem:Nat→Option (Nat×List SV)} {J:Nat→Prop} {w:World} {x:AR} {v:Value} (hx:x.JV=false) (h:nk c.I J c.O c.mt w L x v):iV T c tok mem J w L x v:=by
 cases x<;>first|exact h|cases hx
theorem iV.old {c:Cx} {tok:Nat→Option Tok} {mem:Nat→Option (Nat×List SV)} {J:Nat→Prop} {w:World} {x:AR} {v:Value} (hx:x.JV=false) (h:iV T c tok mem J w L x v):nk c.I J c.O c.mt w L x v:=by
 cases x<;>first|exact h|cases hx
theorem iV.olds {c:Cx} {tok:Nat→Option Tok} {mem:Nat→Option (Nat×List SV)} {J:Nat→Prop} {w:World}:∀{l:List AR} {vs:List Value},mF l=true→aS (iV T c tok mem J w L) l vs→aS (nk c.I J c.O c.mt w L) l vs
 |[],[],_,_=>trivial
 |x::l,v::vs,hn,h=>by
  simp only [mF,Bool.and_eq_true,Bool.not_eq_true'] at hn
  exact⟨h.1.old hn.1,iV.olds hn.2 h.2⟩
 |[],_::_,_,h=>h.elim
 |_::_,[],_,h=>h.elim
theorem iV.ext {c c':Cx} {tok sU:Nat→Option Tok} {mem mem':Nat→Option (Nat×List SV)} {J:Nat→Prop} (e:Ext L c tok mem w c' sU mem' w) (hm:mem'=mem) {x:AR} {v:Value} (h:iV T c tok mem J w L x v):iV T c' sU mem' J w L x v:=by
 cases hx:x.JV with
 |false=>exact iV.of hx (by rw [e.hmt,e.hO];exact nk.ext e.hI (fun _ h=>h) hx (h.old hx))
 |true=>
  cases x with
  |bx as=>
   obtain⟨d,g,cells,b,cs,E,h1,h2,h3,h4,h5,h6⟩:=h
   exact⟨d,g,cells,b,cs,E,by rw [hm];exact h1,ah.ext e _ _ h2,h3,h4,h5.mono fun _ _ h=>zN.mono e.hI h,h6⟩
  |_=>cases hx
theorem yc {s:St} {x:SV} {K:AV→St→Prop} (h:erase s x K):erase s x fun a s'=>K a s'∧s'.mem=s.mem:=by
 cases x with
 |own τ g=>
  simp only [erase] at h ⊢
  cases ht:s.tok τ with
  |none=>simp [ht] at h
  |some t=>
   simp only [ht] at h ⊢
   cases hg:Nat.beq t.gen g with
   |false=>simp [hg] at h
   |true=>simp only [hg,cond_true] at h ⊢;exact⟨h,rfl⟩
 |data a=>exact⟨h,rfl⟩
 |aj=>exact⟨h,rfl⟩
 |fr l=>exact⟨h,rfl⟩
 |argv i j a=>exact⟨h,rfl⟩
 |_=>exact h
theorem yg {s:St} {x:SV} {K K':AV→St→Prop} (hk:∀a s,K a s→K' a s) (h:erase s x K):erase s x K':=by
 cases x with
 |own τ g=>
  simp only [erase] at h ⊢
  cases ht:s.tok τ with
  |none=>simp [ht] at h
  |some t=>
   simp only [ht] at h ⊢
   cases hg:Nat.beq t.gen g with
   |false=>simp [hg] at h
   |true=>simp only [hg,cond_true] at h ⊢;exact hk _ _ h
 |data a=>exact hk _ _ h
 |aj=>exact hk _ _ h
 |fr l=>exact hk _ _ h
 |argv i j a=>exact hk _ _ h
 |_=>exact h
theorem uF:∀{l:List SV} {s:St} {K:List AV→St→Prop},mG s l K→mG s l fun a s'=>K a s'∧s'.mem=s.mem
 |[],_,_,h=>⟨h,rfl⟩
 |v::r,s,K,h=>by
  simp only [mG] at h ⊢
  exact yg (fun a s1 hh=>by
   obtain⟨h1,h2⟩:=hh
   rw [← h2]
   exact uF (l:=r) (K:=fun as s2=>K (a::as) s2) h1) (yc h)
theorem Hf:∀{l:List SV} {s:St} {K K':List AV→St→Prop},(∀a s,K a s→K' a s)→mG s l K→mG s l K'
 |[],_,_,_,hk,h=>hk _ _ h
 |v::r,s,K,K',hk,h=>by
  simp only [mG] at h ⊢
  exact yg (fun a s1 hh=>Hf (l:=r) (fun as s2 h2=>hk _ _ h2) hh) h
theorem Hg {s:St} {x:SV} {K:AV→St→Prop} (h:mZ s x K):mZ s x fun a s'=>K a s'∧s'.mem=s.mem:=by
 cases x with
 |iF l=>exact uF (K:=fun as s1=>K (.agg as) s1) h
 |_=>simp only [mZ] at h ⊢;exact yc h
theorem Ml {s:St} {x:SV} {K:AV→St→Prop} (h:jf s x K):jf s x fun a s'=>K a s'∧s'.mem=s.mem:=by
 unfold jf at h ⊢
 split at h
 ·rename_i d g
  split at h
  ·rename_i g' cells hm
   cases hg:Nat.beq g' g with
   |false=>simp only [hg,cond_false] at h
   |true=>
    simp only [hm,hg,cond_true] at h ⊢
    split at h
    ·exact yc h
    ·exact uF (K:=fun as s1=>K (.agg as) s1) h
  ·exact h.elim
 ·exact⟨h,rfl⟩
 ·exact h.elim
theorem Mq {s:St} {x:SV} {K K':AV→St→Prop} (hk:∀a s,K a s→K' a s) (h:jf s x K):jf s x K':=by
 unfold jf at h ⊢
 split at h
 ·rename_i d g
  split at h
  ·rename_i g' cells hm
   cases hg:Nat.beq g' g with
   |false=>simp only [hg,cond_false] at h
   |true=>
    simp only [hm,hg,cond_true] at h ⊢
    split at h
    ·exact yg hk h
    ·exact Hf (fun _ _ hh=>hk _ _ hh) h
  ·exact h.elim
 ·exact hk _ _ h
 ·exact h.elim
theorem qc:∀{l:List SV} {s:St} {K:List AV→St→Prop},iL s l K→iL s l fun a s'=>K a s'∧s'.mem=s.mem
 |[],_,_,h=>⟨h,rfl⟩
 |v::r,s,K,h=>by
  simp only [iL] at h ⊢
  exact Mq (fun a s1 hh=>by
   obtain⟨h1,h2⟩:=hh
   rw [← h2]
   exact qc (l:=r) (K:=fun as s2=>K (a::as) s2) h1) (Ml h)
theorem zP:∀{l:List SV} {s:St} {K:List SV→St→Prop},pW s l K→pW s l fun a s'=>K a s'∧s'.mem=s.mem
 |[],_,_,h=>⟨h,rfl⟩
 |v::r,s,K,h=>by
  have go:(erase s v fun a s1=>pW s1 r fun as s2=>K (.data a::as) s2)→erase s v fun a s1=>pW s1 r fun as s2=>K (.data a::as) s2∧s2.mem=s.mem:=fun h=>yg (fun a s1 hh=>by
   obtain⟨h1,h2⟩:=hh
   rw [← h2]
   exact zP (l:=r) (K:=fun as s2=>K (.data a::as) s2) h1) (yc h)
  cases v with
  |aj=>exact zP (l:=r) (K:=fun as s2=>K (.aj::as) s2) h
  |_=>exact go h
theorem Mr {s:St} {c:Cx}:∀{l:List SV} {vs:List Value} {K:List SV→St→Prop},Gam T L w0 I0 s a w c→ak T c s.tok s.mem w L l vs→pW s l K→
  ∃bs s' c',K bs s'∧Gam T L w0 I0 s' a w c'∧Ext L c s.tok s.mem w c' s'.tok s'.mem w∧aS (zN c'.I w L) bs vs:=by
 intro l
 induction l generalizing s c with
 |nil=>
  intro vs K h hl he
  simp only [ak] at hl;subst hl
  exact⟨[],s,c,he,h,Ext.refl _ _ _ _ _,trivial⟩
 |cons x xs ih=>
  intro vs K h hl he
  simp only [ak] at hl
  obtain⟨u,us,rfl,h2,h3⟩:=hl
  have go:(erase s x fun a s1=>pW s1 xs fun as s2=>K (.data a::as) s2)→∃bs s' c',K bs s'∧Gam T L w0 I0 s' a w c'∧Ext L c s.tok s.mem w c' s'.tok s'.mem w∧aS (zN c'.I w L) bs (u::us):=fun he=>by
   obtain⟨b,s1,c1,k1,k2,k3,k4⟩:=qX h h2 he
   obtain⟨bs,s2,c2,m1,m2,m3,m4⟩:=ih k2 (ak.ext k3 _ _ h3) k1
   exact⟨.data b::bs,s2,c2,m1,m2,k3.trans m3,k4.mono m3.hI m3.hwI,m4⟩
  cases x with
  |aj=>
   obtain⟨bs,s2,c2,m1,m2,m3,m4⟩:=ih (K:=fun as s2=>K (.aj::as) s2) h h3 he
   exact⟨.aj::bs,s2,c2,m1,m2,m3,by simpa [ah,zN] using h2,m4⟩
  |_=>exact go he
theorem Ms {s:St} {x:SV} {K:AR→St→Prop} (h:jg s x K):jg s x fun a s'=>K a s'∧s'.mem=s.mem:=by
 cases x with
 |fn f caps=>exact qc (K:=fun as s1=>K (.fn f as) s1) h
 |fnr f caps=>exact⟨h,rfl⟩
 |old a=>exact⟨h,rfl⟩
 |box d g off=>
  cases off with
  |succ n=>exact h.elim
  |zero=>
   simp only [jg] at h ⊢
   cases hd:s.mem d with
   |none=>simp [hd] at h
   |some p=>
    obtain⟨g',cells⟩:=p
    simp only [hd] at h ⊢
    cases hg:Nat.beq g' g with
    |false=>simp only [hg,cond_false] at h
    |true=>simp only [hg,cond_true] at h ⊢;exact zP (K:=fun as s1=>K (.bx as) s1) h
 |iF l=>exact Hg (x:=.iF l) (K:=fun a s1=>K (.d a) s1) h
 |own τ g=>exact Hg (x:=.own τ g) (K:=fun a s1=>K (.d a) s1) h
 |data a=>exact⟨h,rfl⟩
 |aj=>exact⟨h,rfl⟩
 |fr l=>exact⟨h,rfl⟩
 |argv i j a=>exact⟨h,rfl⟩
 |_=>exact h
theorem Hl {s:St} {c:Cx} {x:SV} {v:Value} {K:AR→St→Prop} (h:Gam T L w0 I0 s a w c) (hx:ah T c s.tok s.mem w L x v) (he:jg s x K):
  ∃b s' c',K b s'∧Gam T L w0 I0 s' a w c'∧Ext L c s.tok s.mem w c' s'.tok s'.mem w∧s'.mem=s.mem∧∀(J:Nat→Prop),(∀b,b < w.heap.size→¬ c.M b→J b)→iV T c' s'.tok s'.mem J w L b v:=by
 replace he:=Ms he
 cases x with
 |fn f caps=>
  simp only [jg] at he
  simp only [ah] at hx
  obtain⟨vs,rfl,h2⟩:=hx
  obtain⟨bs,s',c',⟨k1,k0⟩,k2,k3,k4⟩:=sV h h2 he
  exact⟨.fn f bs,s',c',k1,k2,k3,k0,fun J hJ=>⟨vs,rfl,k4 J hJ⟩⟩
 |fnr f caps=>
  simp only [jg] at he
  simp only [ah] at hx
  obtain⟨vs,rfl,h2⟩:=hx
  exact⟨_,s,c,he.1,h,Ext.refl _ _ _ _ _,rfl,fun J hJ=>⟨vs,rfl,h2.mono fun _ _ hu=>qQ.ext (fun _ h=>h) (fun b hj=>.inl (hJ b (h.Mj b hj) (h.nm (.inr hj)))) (fun _ _ _=>rfl) hu⟩⟩
 |old b=>
  simp only [jg] at he
  simp only [ah] at hx
  exact⟨_,s,c,he.1,h,Ext.refl _ _ _ _ _,rfl,fun J hJ=>hx⟩
 |box d g off=>
  cases off with
  |succ n=>exact he.elim
  |zero=>
   simp only [jg] at he
   cases hd:s.mem d with
   |none=>simp [hd] at he
   |some p=>
    obtain⟨g',cells⟩:=p
    simp only [hd] at he
    cases hg:Nat.beq g' g with
    |false=>simp only [hg,cond_false] at he
    |true=>
     simp only [hg,cond_true] at he
     have:=Nat.eq_of_beq_eq_true hg
     subst this
     have hx0:=hx
     simp only [ah] at hx
     obtain⟨g1,wK,h1,h2,h3⟩:=hx
     rw [hd] at h1;cases h1
     obtain⟨b,hb,hv⟩:=h3 rfl
     obtain⟨b',cs,E,k1,k2,k3,k4,k5⟩:=h.kX d g' cells hd
     rw [hb] at k1;cases k1
     obtain⟨as,s',c',⟨n1,n0⟩,n2,n3,n4⟩:=Mr h k4 he
     exact⟨.bx as,s',c',n1,n2,n3,n0,fun J hJ=>⟨d,g',cells,b,cs,E,by rw [n0];exact hd,ah.ext n3 _ _ hx0,hv,k3,n4,k5⟩⟩
 |_=>
  simp only [jg] at he
  obtain⟨b,s',c',⟨k1,k0⟩,k2,k3,k4⟩:=pq h hx he
  exact⟨_,s',c',k1,k2,k3,k0,fun J _=>k4⟩
theorem oJ:∀{l:List SV} {s:St} {c:Cx} {vs:List Value} {K:List AR→St→Prop},Gam T L w0 I0 s a w c→ak T c s.tok s.mem w L l vs→gT s l K→
  ∃bs s' c',K bs s'∧Gam T L w0 I0 s' a w c'∧Ext L c s.tok s.mem w c' s'.tok s'.mem w∧s'.mem=s.mem∧∀(J:Nat→Prop),(∀b,b < w.heap.size→¬ c.M b→J b)→aS (iV T c' s'.tok s'.mem J w L) bs vs:=by
 intro l
 induction l with
 |nil=>
  intro s c vs K h hl he
  simp only [ak] at hl;subst hl
  exact⟨[],s,c,he,h,Ext.refl _ _ _ _ _,rfl,fun _ _=>trivial⟩
 |cons x xs ih=>
  intro s c vs K h hl he
  simp only [ak] at hl
  obtain⟨u,us,rfl,h2,h3⟩:=hl
  simp only [gT] at he
  obtain⟨b,s1,c1,k1,k2,k3,k0,k4⟩:=Hl h h2 he
  obtain⟨bs,s2,c2,m1,m2,m3,m0,m4⟩:=ih k2 (ak.ext k3 _ _ h3) k1
  exact⟨b::bs,s2,c2,m1,m2,k3.trans m3,m0.trans k0,fun J hJ=>⟨(k4 J hJ).ext m3 m0,m4 J (by rw [k3.hM];exact hJ)⟩⟩
end
end Go.Proofs.YtjfnojijdggfhaaGreat.Abs
namespace Go.Proofs.YtjfnojijdggfhaaGreat.Abs
def Wr.nS:Wr→Bool
 | .tok _ _=>true
 |_=>false
theorem SK:∀{ws:List Wr} {s:St},(∀w∈ws,w.nS=true)→(s.app ws).get=s.get
 |[],_,_=>rfl
 | .tok _ _::r,s,h=>by
  simp only [St.app]
  rw [SK fun w hw=>h w (by simp [hw])];rfl
 | .slot i v::r,s,h=>by have:=h (.slot i v) (by simp);simp [Wr.nS] at this
 | .mem d g cs::r,s,h=>by have:=h (.mem d g cs) (by simp);simp [Wr.nS] at this
theorem Mt:∀{ws:List Wr} {s:St},(∀w∈ws,w.nS=true)→(s.app ws).mem=s.mem
 |[],_,_=>rfl
 | .tok _ _::r,s,h=>by
  simp only [St.app]
  rw [Mt fun w hw=>h w (by simp [hw])];rfl
 | .slot i v::r,s,h=>by have:=h (.slot i v) (by simp);simp [Wr.nS] at this
 | .mem d g cs::r,s,h=>by have:=h (.mem d g cs) (by simp);simp [Wr.nS] at this
def Fz (fz:Nat→Bool) (s:St):Prop:=∀τ,fz τ=true→∃t,s.tok τ=some t∧t.frz=true
def eG {α:Type} (fz:Nat→Bool) (F:St→(α→St→Prop)→Prop) (s:St) (R W:List Key):Prop:=
 Fz fz s→∀K,F s K→∃x ws,K x (s.app ws)∧Fz fz (s.app ws)∧(∀w∈ws,w.nS=true)∧(∀w∈ws,w.key∈W)∧
  ∀t,t.n=s.n→(∀k∈R,same k s t)→∀K',K' x (t.app ws)→F t K'
theorem eG.bind {α β:Type} {fz:Nat→Bool} {F:St→(α→St→Prop)→Prop} {G:α→St→(β→St→Prop)→Prop} {s:St} {R1 W1 R2 W2:List Key}
  (h1:eG fz F s R1 W1) (h2:∀x ws,(∀w∈ws,w.nS=true)→eG fz (G x) (s.app ws) R2 W2):
  eG fz (fun s K=>F s (fun x s1=>G x s1 K)) s (R1++R2) (W1++W2):=by
 intro hz K h
 obtain⟨x,ws,hG,hz1,ht1,hk1,hF⟩:=h1 hz _ h
 obtain⟨y,vs,hK,hz2,ht2,hk2,hF2⟩:=h2 x ws ht1 hz1 K hG
 refine⟨y,ws++vs,by rwa [St.aF],by rwa [St.aF],?_,?_,?_⟩
 ·intro w hw;exact (List.mem_append.1 hw).elim (ht1 w) (ht2 w)
 ·intro w hw;rcases List.mem_append.1 hw with hw|hw
  ·exact List.mem_append_left _ (hk1 w hw)
  ·exact List.mem_append_right _ (hk2 w hw)
 ·intro t hn hR K' hk
  refine hF t hn (fun k hk=>hR k (List.mem_append_left _ hk)) _ ?_
  refine hF2 (t.app ws) (by simp [St.sS,hn]) (fun k hk=>gW hn.symm (hR k (List.mem_append_right _ hk))) K' ?_
  rwa [← St.aF]
theorem eG.pure {α:Type} {fz:Nat→Bool} {x:α} {s:St}:eG fz (fun s K=>K x s) s [] []:=
 fun hz _ h=>⟨x,[],h,hz,by simp,by simp,fun _ _ _ _ hk=>hk⟩
theorem eG.false {α:Type} {fz:Nat→Bool} {F:St→(α→St→Prop)→Prop} {s:St} {R W:List Key} (h:∀K,¬ F s K):eG fz F s R W:=
 fun _ K hh=>(h K hh).elim
theorem eG.map {α β:Type} {fz:Nat→Bool} {F:St→(α→St→Prop)→Prop} {s:St} {R W:List Key} (f:α→β) (h:eG fz F s R W):
  eG fz (fun s K=>F s (fun x s1=>K (f x) s1)) s R W:=by
 intro hz K hh
 obtain⟨x,ws,h1,h2,h3,h4,h5⟩:=h hz _ hh
 exact⟨f x,ws,h1,h2,h3,h4,fun t hn hR K' hk=>h5 t hn hR _ hk⟩
def eR:SV→List Key
 | .own τ _=>[.tok τ]
 |_=>[]
def eW (fz:Nat→Bool):SV→List Key
 | .own τ _=>bif fz τ then [] else [.tok τ]
 |_=>[]
def eRL:List SV→List Key
 |[]=>[]
 |v::r=>eR v++eRL r
def eWL (fz:Nat→Bool):List SV→List Key
 |[]=>[]
 |v::r=>eW fz v++eWL fz r
def eRV:SV→List Key
 | .iF l=>eRL l
 |v=>eR v
def eWV (fz:Nat→Bool):SV→List Key
 | .iF l=>eWL fz l
 |v=>eW fz v
theorem EM {s:St} {τ:Nat} {t:Tok} (h:s.tok τ=some t):s.aU τ t=s:=by
 refine St.ext' rfl fun k=>?_
 cases k with
 |slot i=>rfl
 |mem d=>rfl
 |tok τ'=>
  simp only [same,St.aU]
  cases hb:Nat.beq τ' τ with
  |true=>rw [Nat.eq_of_beq_eq_true hb,h];rfl
  |false=>rfl
theorem Fz.aU {fz:Nat→Bool} {s:St} {τ:Nat} {t:Tok} (h:Fz fz s) (ht:t.frz=true):Fz fz (s.aU τ t):=by
 intro τ' hz
 simp only [St.aU]
 cases hb:Nat.beq τ' τ with
 |true=>exact⟨t,rfl,ht⟩
 |false=>exact h τ' hz
theorem yh {fz:Nat→Bool} {v:SV} {s:St}:eG fz (fun s K=>erase s v K) s (eR v) (eW fz v):=by
 cases v with
 |data a=>exact eG.pure
 |aj=>exact eG.pure
 |fr l=>exact eG.pure
 |argv i j a=>exact eG.pure
 |own τ g=>
  intro hz K h
  simp only [erase] at h
  split at h
  ·rename_i tk htk
   cases hg:Nat.beq tk.gen g with
   |false=>simp [hg] at h
   |true=>
    simp only [hg,cond_true] at h
    have hF:∀t:St,t.tok τ=some tk→∀K',K' (.sl tk.l) (t.aU τ { tk with frz:=true })→erase t (.own τ g) K':=by
     intro t ht K' hk
     simp only [erase,ht,hg,cond_true];exact hk
    cases hf:fz τ with
    |true=>
     obtain⟨tk',ht',hfr⟩:=hz τ hf
     rw [htk] at ht';cases ht'
     have e:({ tk with frz:=true }:Tok)=tk:=by cases tk;simp_all
     rw [e,EM htk] at h
     refine⟨.sl tk.l,[],h,hz,by simp,by simp,fun t hn hR K' hk=>hF t ?_ K' ?_⟩
     ·have:=hR (.tok τ) (by simp [eR]);simp only [same] at this;rw [← this,htk]
     ·have:=hR (.tok τ) (by simp [eR]);simp only [same] at this
      rw [e,EM (by rw [← this,htk])];exact hk
    |false=>
     refine⟨.sl tk.l,[.tok τ { tk with frz:=true }],h,hz.aU rfl,by simp [Wr.nS],by simp [Wr.key,eW,hf],fun t hn hR K' hk=>hF t ?_ K' hk⟩
     have:=hR (.tok τ) (by simp [eR]);simp only [same] at this;rw [← this,htk]
  ·exact h.elim
 |undef|gone|jy|box|bsl|ref|old|dI|fn|fnr|iF|tup=>exact eG.false fun K h=>h
theorem uG {fz:Nat→Bool}:∀{l:List SV} {s:St},eG fz (fun s K=>mG s l K) s (eRL l) (eWL fz l)
 |[],_=>eG.pure
 |v::r,_=>(yh (v:=v)).bind fun x _ _=>(uG (l:=r)).map fun as=>x::as
theorem zQ {fz:Nat→Bool} {v:SV} {s:St}:eG fz (fun s K=>mZ s v K) s (eRV v) (eWV fz v):=by
 cases v with
 |iF l=>exact (uG (l:=l)).map AV.agg
 |own τ g=>exact (yh (v:=.own τ g):eG fz (fun s K=>erase s (.own τ g) K) s (eR (.own τ g)) (eW fz (.own τ g)))
 |data a=>exact eG.pure
 |aj=>exact eG.pure
 |fr l=>exact eG.pure
 |argv i j a=>exact eG.pure
 |undef|gone|jy|box|bsl|ref|old|dI|fn|fnr|tup=>exact eG.false fun K h=>h
theorem KO {fz:Nat→Bool} {τ:Nat} {v:SV} {s:St}:eG fz (fun s K=>take1 τ s v fun a q s'=>K (a,q) s') s (eR v) (eR v):=by
 cases v with
 |data a=>exact eG.pure (x:=(a,a.flat))
 |aj=>exact eG.pure (x:=(AV.sl [],true))
 |fr l=>exact eG.pure (x:=(AV.sl l,false))
 |argv i j a=>exact eG.false fun K h=>h
 |own σ g=>
  intro hz K h
  simp only [take1] at h
  split at h
  ·rename_i tk htk
   cases hg:Nat.beq tk.gen g with
   |false=>simp [hg] at h
   |true=>
    simp only [hg,cond_true] at h
    refine⟨(.sl tk.l,tk.lin&& !Nat.beq σ τ),[.tok σ { tk with frz:=true,lin:=tk.lin&&Nat.beq σ τ }],h,hz.aU rfl,by simp [Wr.nS],by simp [Wr.key,eR],fun t hn hR K' hk=>?_⟩
    have:=hR (.tok σ) (by simp [eR]);simp only [same] at this
    have ht:t.tok σ=some tk:=by rw [← this,htk]
    simp only [take1,ht,hg,cond_true]
    exact hk
  ·exact h.elim
 |undef|gone|jy|box|bsl|ref|old|dI|fn|fnr|iF|tup=>exact eG.false fun K h=>h
theorem KP {fz:Nat→Bool} {τ:Nat}:∀{l:List SV} {s:St},eG fz (fun s K=>yV τ s l fun a q s'=>K (a,q) s') s (eRL l) (eRL l)
 |[],_=>eG.pure (x:=(([]:List AV),true))
 |v::r,_=>(KO (τ:=τ) (v:=v)).bind (G:=fun x s1 K=>yV τ s1 r fun as q' s2=>K (x.1::as,x.2&&q') s2) fun x _ _=>(KP (τ:=τ) (l:=r)).map fun y=>(x.1::y.1,x.2&&y.2)
theorem TU {fz:Nat→Bool} {τ:Nat} {v:SV} {s:St}:eG fz (fun s K=>qW τ s v fun a q s'=>K (a,q) s') s (eRV v) (eRV v):=by
 cases v with
 |iF l=>exact (KP (τ:=τ) (l:=l)).map fun y=>(AV.agg y.1,y.2)
 |own σ g=>exact (KO (τ:=τ) (v:=.own σ g))
 |data a=>exact eG.pure (x:=(a,a.flat))
 |aj=>exact eG.pure (x:=(AV.sl [],true))
 |fr l=>exact eG.pure (x:=(AV.sl l,false))
 |argv i j a=>exact eG.false fun K h=>h
 |undef|gone|jy|box|bsl|ref|old|dI|fn|fnr|tup=>exact eG.false fun K h=>h
mutual
def RV.toks (τ:Nat):RV→List Key
 | .own _ _=>[.tok τ]
 | .lin _ _=>[.tok τ]
 | .agg l=>RV.AB (τ*10+1) l
 | .tup l=>RV.AB (τ*10+1) l
 |_=>[]
def RV.AB (τ:Nat):List RV→List Key
 |[]=>[]
 |r::rs=>RV.toks τ r++RV.AB (τ+1) rs
end
theorem qd {s:St} {τ E:Nat} {l:List AV} {q:Bool}:∃v ws,eY s τ E l q=(v,s.app ws)∧(∀w∈ws,w.nS=true)∧(∀w∈ws,w.key∈[Key.tok τ])∧∀t,same (.tok τ) s t→eY t τ E l q=(v,t.app ws):=by
 refine⟨_,[.tok τ ⟨jh (s.tok τ),false,E,l,q⟩],rfl,by simp [Wr.nS],by simp [Wr.key],fun t ht=>?_⟩
 simp only [same] at ht
 simp only [eY,ht,St.app,St.wr]
mutual
theorem Mv (A:List SV):∀(r:RV) (s:St) (τ:Nat),∃v ws,RV.lay A s τ r=(v,s.app ws)∧(∀w∈ws,w.nS=true)∧(∀w∈ws,w.key∈RV.toks τ r)∧
  ∀t,t.n=s.n→(∀k∈RV.toks τ r,same k s t)→RV.lay A t τ r=(v,t.app ws)
 | .d a,s,τ=>⟨_,[],rfl,by simp,by simp,fun t _ _=>rfl⟩
 | .aj,s,τ=>⟨_,[],rfl,by simp,by simp,fun t _ _=>rfl⟩
 | .fr l,s,τ=>⟨_,[],rfl,by simp,by simp,fun t _ _=>rfl⟩
 | .arg i off n,s,τ=>⟨_,[],rfl,by simp,by simp,fun t _ _=>rfl⟩
 | .junk,s,τ=>⟨_,[],rfl,by simp,by simp,fun t _ _=>rfl⟩
 | .eff _ _ _,s,τ=>⟨_,[],rfl,by simp,by simp,fun t _ _=>rfl⟩
 | .ptr _,s,τ=>⟨_,[],rfl,by simp,by simp,fun t _ _=>rfl⟩
 | .own E l,s,τ=>by
  obtain⟨v,ws,h1,h2,h3,h4⟩:=qd (s:=s) (τ:=τ) (E:=E) (l:=l) (q:=false)
  exact⟨v,ws,by simpa [RV.lay] using h1,h2,by simpa [RV.toks] using h3,fun t _ ht=>by simpa [RV.lay] using h4 t (ht _ (by simp [RV.toks]))⟩
 | .lin E l,s,τ=>by
  obtain⟨v,ws,h1,h2,h3,h4⟩:=qd (s:=s) (τ:=τ) (E:=E) (l:=l) (q:=true)
  exact⟨v,ws,by simpa [RV.lay] using h1,h2,by simpa [RV.toks] using h3,fun t _ ht=>by simpa [RV.lay] using h4 t (ht _ (by simp [RV.toks]))⟩
 | .agg l,s,τ=>by
  obtain⟨v,ws,h1,h2,h3,h4⟩:=AJ A l s (τ*10+1)
  exact⟨.iF v,ws,by simp [RV.lay,h1],h2,by simpa [RV.toks] using h3,fun t hn ht=>by simp [RV.lay,h4 t hn (by simpa [RV.toks] using ht)]⟩
 | .tup l,s,τ=>by
  obtain⟨v,ws,h1,h2,h3,h4⟩:=AJ A l s (τ*10+1)
  exact⟨.tup v,ws,by simp [RV.lay,h1],h2,by simpa [RV.toks] using h3,fun t hn ht=>by simp [RV.lay,h4 t hn (by simpa [RV.toks] using ht)]⟩
theorem AJ (A:List SV):∀(l:List RV) (s:St) (τ:Nat),∃v ws,RV.mH A s τ l=(v,s.app ws)∧(∀w∈ws,w.nS=true)∧(∀w∈ws,w.key∈RV.AB τ l)∧
  ∀t,t.n=s.n→(∀k∈RV.AB τ l,same k s t)→RV.mH A t τ l=(v,t.app ws)
 |[],s,τ=>⟨[],[],rfl,by simp,by simp,fun t _ _=>rfl⟩
 |r::rs,s,τ=>by
  obtain⟨v,ws,h1,h2,h3,h4⟩:=Mv A r s τ
  obtain⟨vs,us,g1,g2,g3,g4⟩:=AJ A rs (s.app ws) (τ+1)
  refine⟨v::vs,ws++us,?_,?_,?_,?_⟩
  ·simp [RV.mH,h1,g1,St.aF]
  ·intro w hw;exact (List.mem_append.1 hw).elim (h2 w) (g2 w)
  ·intro w hw
   simp only [RV.AB]
   rcases List.mem_append.1 hw with hw|hw
   ·exact List.mem_append_left _ (h3 w hw)
   ·exact List.mem_append_right _ (g3 w hw)
  ·intro t hn ht
   simp only [RV.AB] at ht
   have e1:=h4 t hn fun k hk=>ht k (List.mem_append_left _ hk)
   have e2:=g4 (t.app ws) (by simp [St.sS,hn]) fun k hk=>gW hn.symm (ht k (List.mem_append_right _ hk))
   simp [RV.mH,e1,e2,St.aF]
end
def oK:Operand→List Key
 | .tmp t=>[.slot t]
 |_=>[]
def oKs:List Operand→List Key
 |[]=>[]
 |x::r=>oK x++oKs r
def dK:Option Nat→List Key
 |some d=>[.slot d]
 |none=>[]
def sK:SV→List Key
 | .own τ _=>[.tok τ]
 | .jy τ _ _ _=>[.tok τ]
 | .box d _ _=>[.mem d]
 | .bsl d _ _=>[.mem d]
 |_=>[]
def sKs:List SV→List Key
 |[]=>[]
 |v::r=>sK v++sKs r
def iM (d:Option Nat) (v:SV):List Wr:=match d with|some d=>[.slot d v]|none=>[]
theorem aC {s:St} {d:Option Nat} {v:SV}:s.put d v=s.app (iM d v):=by cases d<;>rfl
theorem aT {d:Option Nat} {v:SV}:∀w∈iM d v,w.key∈dK d:=by cases d<;>simp [iM,dK,Wr.key]
theorem bI {s t:St} {x:Operand} (h:∀k∈oK x,same k s t):t.ev x=s.ev x:=by
 cases x with
 |tmp i=>have:=h (.slot i) (by simp [oK]);simp only [same] at this;simp [St.ev,this]
 |const v=>rfl
 |func f=>rfl
 |_=>rfl
theorem nT {s t:St}:∀{l:List Operand},(∀k∈oKs l,same k s t)→l.map t.ev=l.map s.ev
 |[],_=>rfl
 |x::r,h=>by
  simp only [oKs,List.mem_append] at h
  simp only [List.map_cons]
  rw [bI fun k hk=>h k (.inl hk),nT fun k hk=>h k (.inr hk)]
theorem gF {s t:St} {v:SV} (h:∀k∈sK v,same k s t):v.stands t=v.stands s:=by
 cases v with
 |own τ g=>have:=h (.tok τ) (by simp [sK]);simp only [same] at this;simp [SV.stands,this]
 |jy τ g k off=>have:=h (.tok τ) (by simp [sK]);simp only [same] at this;simp [SV.stands,this]
 |box d g off=>have:=h (.mem d) (by simp [sK]);simp only [same] at this;simp [SV.stands,this]
 |bsl d g n=>have:=h (.mem d) (by simp [sK]);simp only [same] at this;simp [SV.stands,this]
 |_=>rfl
theorem uH {s t:St} {v:SV} (h:∀k∈sK v,same k s t):t.content v=s.content v:=by
 cases v with
 |own τ g=>have:=h (.tok τ) (by simp [sK]);simp only [same] at this;simp [St.content,this]
 |data a=>cases a<;>rfl
 |_=>rfl
def One {α:Type} (F:(α→Prop)→Prop):Prop:=∀K,F K→∃x,K x∧∀K',K' x→F K'
theorem One.pure {α:Type} {x:α}:One (fun K=>K x):=fun _ h=>⟨x,h,fun _ h=>h⟩
theorem One.none {α:Type} {F:(α→Prop)→Prop} (h:∀K,¬ F K):One F:=fun K hh=>(h K hh).elim
theorem One.vc {α:Type} {p:Prop} {F:(α→Prop)→Prop} (h:One F):One (fun K=>VC p (F K)):=fun K hh=>by
 obtain⟨x,h1,h2⟩:=h K hh.k
 exact⟨x,h1,fun K' hk=>⟨hh.h,h2 K' hk⟩⟩
theorem One.arith {α:Type} {k:IntKind} {r:Int} {f:Int→α}:One (fun K=>Arith k r fun r=>K (f r)):=fun _ h=>⟨_,h.h,fun _ hk=>⟨hk⟩⟩
theorem One.bif {α:Type} {b:Bool} {F G:(α→Prop)→Prop} (h:One F) (h':One G):One (fun K=>bif b then F K else G K):=by cases b<;>assumption
theorem One.no {α:Type}:One (fun _:α→Prop=>False):=fun _ h=>h.elim
theorem UY {op:BinOp} {k:IntKind} {x y:Int}:One (UJ op k x y):=by
 cases op<;>first|exact One.arith|exact One.vc One.arith|exact One.vc One.pure|exact One.pure|exact One.no
theorem Wx {op:BinOp} {k:IntKind} {x y:Int}:One (fun K:AV→Prop=>match op with| .shr=>VC (0≤y) (K (.int k (x.fdiv (2 ^ min y.toNat k.bits))))|_=>False):=by
 cases op<;>first|exact One.vc One.pure|exact One.no
theorem UZ {T:Nat→Ty} {L:Nat} {op:BinOp} {t:Nat} {a b:AV}:One (GL T L op t a b):=by
 intro K h
 unfold GL at h
 split at h
 ·rename_i k x k' y
  cases hb:decide (k=k') with
  |false=>
   simp only [hb,cond_false] at h
   obtain⟨v,h1,h2⟩:=Wx K h
   exact⟨v,h1,fun K' hk=>by simp only [GL,hb,cond_false];exact h2 K' hk⟩
  |true=>
   simp only [hb,cond_true] at h
   obtain⟨v,h1,h2⟩:=UY K h
   exact⟨v,h1,fun K' hk=>by simp only [GL,hb,cond_true];exact h2 K' hk⟩
 ·split at h
  ·exact⟨_,h,fun K' hk=>hk⟩
  ·exact⟨_,h,fun K' hk=>hk⟩
  ·exact⟨_,h.k,fun K' hk=>⟨h.h,hk⟩⟩
  ·exact h.elim
 ·cases hb:decide ((T t).kind= .bool) with
  |false=>simp only [hb,cond_false] at h
  |true=>
   simp only [hb,cond_true] at h
   split at h
   ·exact⟨_,h,fun K' hk=>by simp only [GL,hb,cond_true];exact hk⟩
   ·exact⟨_,h,fun K' hk=>by simp only [GL,hb,cond_true];exact hk⟩
   ·exact h.elim
 ·rename_i l m
  cases hb:DK T t l with
  |false=>simp only [hb,cond_false] at h
  |true=>
   simp only [hb,cond_true] at h
   cases he:kK l m with
   |none=>simp only [he] at h
   |some b=>
    simp only [he] at h
    cases op<;>first|exact h.elim|exact⟨_,h,fun K' hk=>by simp only [GL,hb,cond_true,he];exact hk⟩
 ·exact h.elim
theorem Wy {op:UnOp} {v:SV}:One (unA op v):=by
 unfold One
 intro K h
 unfold unA at h
 split at h
 ·exact⟨_,h,fun K' hk=>hk⟩
 ·exact⟨_,h.h,fun K' hk=>⟨hk⟩⟩
 ·exact h.elim
theorem wL {ty:Ty} {a:AV}:One (fE ty a):=by
 unfold fE
 refine One.bif One.no (One.bif ?_ ?_)
 ·cases a<;>first|exact One.no|exact One.bif One.pure One.no
 ·cases a<;>first|exact One.no|exact One.pure
theorem EN {ty:Ty} {cells:List SV} {off:Nat}:One (jT ty cells off):=by
 unfold jT
 refine One.bif One.no (One.bif (One.bif One.pure One.no) ?_)
 cases cells[off]? with
 |none=>exact One.no
 |some v=>exact One.pure
theorem uI {l:List AV} {i:Int}:∀K:Nat→AV→Prop,Idx l i K→∃j x,K j x∧∀K':Nat→AV→Prop,K' j x→Idx l i K':=by
 rintro K ⟨j,x,hi,hx,hk⟩
 exact⟨j,x,hk,fun K' h=>⟨j,x,hi,hx,h⟩⟩
def Writes (T:Nat→Ty) (C:Nat→List AR→(RV→Prop)→Prop) (L:Nat) (o:Oper) (s:St) (R W:List Key):Prop:=
 ∀K:St→Prop,aop T C L o s K→∃ws,K (s.app ws)∧(∀w∈ws,w.key∈W)∧∀t:St,t.n=s.n→(∀k∈R,same k s t)→∀K':St→Prop,K' (t.app ws)→aop T C L o t K'
theorem Writes.put {T:Nat→Ty} {C:Nat→List AR→(RV→Prop)→Prop} {L:Nat} {o:Oper} {s:St} {R:List Key} {F:(SV→Prop)→Prop} (hF:One F)
  (hs:∀K,aop T C L o s K→F fun v=>K (s.put o.dst v))
  (ht:∀t:St,t.n=s.n→(∀k∈R,same k s t)→∀K,(F fun v=>K (t.put o.dst v))→aop T C L o t K):Writes T C L o s R (dK o.dst):=by
 intro K h
 obtain⟨v,hv,hb⟩:=hF _ (hs K h)
 refine⟨iM o.dst v,by rwa [← aC],aT,fun t hn hR K' hk=>ht t hn hR K' (hb _ ?_)⟩
 rwa [aC]
theorem Writes.no {T:Nat→Ty} {C:Nat→List AR→(RV→Prop)→Prop} {L:Nat} {o:Oper} {s:St} {R W:List Key} (h:∀K,¬ aop T C L o s K):Writes T C L o s R W:=
 fun K hh=>(h K hh).elim
section
variable {T:Nat→Ty} {C:Nat→List AR→(RV→Prop)→Prop} {L:Nat} {o:Oper} {s:St}
theorem Va {x:Operand} (ho:o.op= .move x∨o.op= .assign x):Writes T C L o s (oK x) (dK o.dst):=by
 have e:∀(u:St) K,aop T C L o u K=K (u.put o.dst (u.ev x)):=by
  intro u K;unfold aop;rcases ho with ho|ho<;>rw [ho]
 refine Writes.put (F:=fun K=>K (s.ev x)) One.pure (fun K h=>by rwa [e] at h) fun t hn hR K h=>?_
 rw [e,bI hR];exact h
theorem XK {c:Nat} {a b:Operand} (ho:o.op= .pick (.tmp c) a b) (hc:Nat.blt c s.n=true):Writes T C L o s (.slot c::(oK a++oK b)) (dK o.dst):=by
 have e:∀(u:St) K,aop T C L o u K=(match u.get c with
  | .data (.bool t)=>Br t fun t=>K ((u.set c (.data (.bool t))).put o.dst (bif t then u.ev a else u.ev b))
  |_=>False):=by
  intro u K;unfold aop;rw [ho]<;>rfl
 intro K h
 rw [e] at h
 split at h
 ·rename_i v hv
  have hself:∀u:St,u.n=s.n→u.get c= .data (.bool v)→u.set c (.data (.bool v))=u:=by
   intro u hun hu
   refine St.ext' rfl fun k=>?_
   cases k with
   |slot i=>
    simp only [same,St.set]
    cases hb:Nat.beq i c with
    |true=>rw [Nat.eq_of_beq_eq_true hb,hu,hun,hc];rfl
    |false=>rfl
   |mem d=>rfl
   |tok τ=>rfl
  have hb:K (s.put o.dst (bif v then s.ev a else s.ev b)):=by
   cases v with
   |true=>have:=h.t rfl;rwa [hself s rfl hv] at this
   |false=>have:=h.f rfl;rwa [hself s rfl hv] at this
  refine⟨iM o.dst (bif v then s.ev a else s.ev b),by rwa [← aC],aT,fun t hn hR K' hk=>?_⟩
  have hg:t.get c= .data (.bool v):=by
   have:=hR (.slot c) (by simp);simp only [same] at this;rw [← this,hv]
  have ha:t.ev a=s.ev a:=bI fun k hk=>hR k (by simp [hk])
  have hb':t.ev b=s.ev b:=bI fun k hk=>hR k (by simp [hk])
  rw [← aC] at hk
  rw [e,hg]
  refine⟨fun hv'=>?_,fun hv'=>?_⟩
  ·subst hv';rw [hself t hn hg,ha];exact hk
  ·subst hv';rw [hself t hn hg,hb'];exact hk
 ·exact h.elim
theorem Wz {E:Nat} (ho:o.op= .alloc E) {d:Nat} (hd:o.dst=some d):Writes T C L o s [.mem d] [.mem d,.slot d]:=by
 have e:∀(u:St) K,aop T C L o u K=(bif (T E).good&&Nat.blt d 1000000 then (let r:=bP u d ((T E).zero.map vQ);K (r.2.set d r.1)) else False):=by
  intro u K;unfold aop;rw [ho,hd]<;>rfl
 intro K h
 rw [e] at h
 cases hg:((T E).good&&Nat.blt d 1000000) with
 |false=>simp only [hg,cond_false] at h
 |true=>
  simp only [hg,cond_true,bP] at h
  refine⟨[.mem d (fZ (s.mem d)) ((T E).zero.map vQ),.slot d (.box d (fZ (s.mem d)) 0)],h,by simp [Wr.key],fun t hn hR K' hk=>?_⟩
  have:=hR (.mem d) (by simp);simp only [same] at this
  rw [e,hg]
  simp only [cond_true,bP, ← this]
  exact hk
theorem XL {t:Nat} {a:Operand} (ho:o.op= .load t a):Writes T C L o s (oK a++sK (s.ev a)) (dK o.dst):=by
 have e:∀(u:St) K,aop T C L o u K=(match u.ev a with
  | .ref x=>fE (T t) x fun v=>K (u.put o.dst (.data v))
  | .dI x=>fE (T t) x fun v=>K (u.put o.dst (oZ v))
  | .box d g off=>(match u.mem d with
   |some (g',cells)=>bif Nat.beq g' g then jT (T t) cells off fun v=>K (u.put o.dst v) else False
   |none=>False)
  | .jy τ g k off=>(match u.tok τ with
   |some tk=>bif Nat.beq tk.gen g&& !tk.frz then
     Idx tk.l k fun _ x=>(match bW x.cells off (T t) with
      |some v=>bif Nat.ble (off+(T t).size) x.cells.length then fE (T t) v fun v=>K (u.put o.dst (.data v)) else False
      |none=>False) else False
   |none=>False)
  |_=>False):=by
  intro u K;unfold aop;rw [ho]<;>rfl
 intro K h
 rw [e] at h
 split at h
 ·rename_i x hx
  obtain⟨v,h1,h2⟩:=wL _ h
  refine⟨iM o.dst (.data v),by rwa [← aC],aT,fun u hn hR K' hk=>?_⟩
  rw [e,bI (fun k hk=>hR k (List.mem_append_left _ hk)),hx]
  refine h2 _ ?_
  rwa [aC]
 ·rename_i x hx
  obtain⟨v,h1,h2⟩:=wL _ h
  refine⟨iM o.dst (oZ v),by rwa [← aC],aT,fun u hn hR K' hk=>?_⟩
  rw [e,bI (fun k hk=>hR k (List.mem_append_left _ hk)),hx]
  refine h2 _ ?_
  rwa [aC]
 ·rename_i d g off hx
  split at h
  ·rename_i g' cells hm
   cases hg:Nat.beq g' g with
   |false=>simp [hg] at h
   |true=>
    simp only [hg,cond_true] at h
    obtain⟨v,h1,h2⟩:=EN _ h
    refine⟨iM o.dst v,by rwa [← aC],aT,fun u hn hR K' hk=>?_⟩
    have hm':u.mem d=some (g',cells):=by
     have:=hR (.mem d) (by simp [hx,sK]);simp only [same] at this;rw [← this,hm]
    rw [e,bI (fun k hk=>hR k (List.mem_append_left _ hk)),hx]
    simp only [hm',hg,cond_true]
    refine h2 _ ?_
    rwa [aC]
  ·exact h.elim
 ·rename_i τ g k off hx
  split at h
  ·rename_i tk hm
   cases hg:(Nat.beq tk.gen g&& !tk.frz) with
   |false=>simp only [hg,cond_false] at h
   |true=>
    simp only [hg,cond_true] at h
    obtain⟨j,x,hj,hb⟩:=uI _ h
    split at hj
    ·rename_i v hv
     cases hl:Nat.ble (off+(T t).size) x.cells.length with
     |false=>simp [hl] at hj
     |true=>
      simp only [hl,cond_true] at hj
      obtain⟨w,h1,h2⟩:=wL _ hj
      refine⟨iM o.dst (.data w),by rwa [← aC],aT,fun u hn hR K' hk=>?_⟩
      have hm':u.tok τ=some tk:=by
       have:=hR (.tok τ) (by simp [hx,sK]);simp only [same] at this;rw [← this,hm]
      rw [e,bI (fun k hk=>hR k (List.mem_append_left _ hk)),hx]
      simp only [hm',hg,cond_true]
      refine hb _ ?_
      simp only [hv,hl,cond_true]
      refine h2 _ ?_
      rwa [aC]
    ·exact hj.elim
  ·exact h.elim
 ·exact h.elim
theorem WA {op:BinOp} {t:Nat} {x y:Operand} {z:TypeId} {q:AV} (ho:o.op= .binOp op t x y z) (hy:s.ev y= .data q):Writes T C L o s (oK x++oK y) (dK o.dst):=by
 have e:∀(u:St) K,u.ev y= .data q→aop T C L o u K=(match u.ev x with
  | .data a=>GL T L op t a q fun v=>K (u.put o.dst (.data v))
  |_=>False):=by
  intro u K hu;unfold aop;rw [ho];simp only [hu];try (cases u.ev x<;>rfl)
 intro K h
 rw [e _ _ hy] at h
 split at h
 ·rename_i a ha
  obtain⟨v,h1,h2⟩:=UZ _ h
  refine⟨iM o.dst (.data v),by rwa [← aC],aT,fun u hn hR K' hk=>?_⟩
  rw [e _ _ (by rw [bI (fun k hk=>hR k (List.mem_append_right _ hk)),hy]),bI (fun k hk=>hR k (List.mem_append_left _ hk)),ha]
  refine h2 _ ?_
  rwa [aC]
 ·exact h.elim
theorem XM {op:UnOp} {t:TypeId} {x:Operand} (ho:o.op= .unOp op t x):Writes T C L o s (oK x) (dK o.dst):=by
 have e:∀(u:St) K,aop T C L o u K=unA op (u.ev x) fun v=>K (u.put o.dst v):=by
  intro u K;unfold aop;rw [ho]<;>rfl
 refine Writes.put (F:=fun K=>unA op (s.ev x) K) Wy (fun K h=>by rwa [e] at h) fun t hn hR K h=>?_
 rw [e,bI hR];exact h
theorem TV {src t:TypeId} {x:Operand} (ho:o.op= .convert src t x):Writes T C L o s (oK x) (dK o.dst):=by
 have e:∀(u:St) K,aop T C L o u K=(match (T src).kind,(T t).kind,u.ev x with
  | .int _,.int k,.data (.int _ n)=>K (u.put o.dst (.data (.int k (k.wrap n))))
  |_,_,_=>False):=by
  intro u K;unfold aop;rw [ho]<;>rfl
 intro K h
 rw [e] at h
 split at h
 ·rename_i hks hk hx
  refine⟨iM o.dst _,by rwa [← aC],aT,fun u hn hR K' hk'=>?_⟩
  rw [e,bI hR,hx,hks,hk]
  simp only
  rwa [aC]
 ·exact h.elim
theorem TW {x:Operand} {i:Nat} (ho:o.op= .extract x i):Writes T C L o s (oK x) (dK o.dst):=by
 have e:∀(u:St) K,aop T C L o u K=(match u.ev x with
  | .tup l=>(match l[i]? with|some v=>K (u.put o.dst v)|none=>False)
  |_=>False):=by
  intro u K;unfold aop;rw [ho]<;>rfl
 intro K h
 rw [e] at h
 split at h
 ·rename_i l hl
  split at h
  ·rename_i v hv
   refine⟨iM o.dst v,by rwa [← aC],aT,fun u hn hR K' hk=>?_⟩
   rw [e,bI hR,hl]
   simp only [hv]
   rwa [aC]
  ·exact h.elim
 ·exact h.elim
theorem WB {t:TypeId} {x:Operand} {f:Nat} (ho:o.op= .field t x f):Writes T C L o s (oK x) (dK o.dst):=by
 have e:∀(u:St) K,aop T C L o u K=(match u.ev x,iX T t f with
  | .data (.agg l),some (fo,ft)=>(match bW l fo (T ft),Nat.beq l.length (T t).size with
   |some v,true=>K (u.put o.dst (.data v))
   |_,_=>False)
  | .old (.agg l),some (fo,ft)=>(match bW l fo (T ft),Nat.beq l.length (T t).size with
   |some v,true=>K (u.put o.dst (oZ v))
   |_,_=>False)
  | .iF l,some (fo,ft)=>bif Nat.beq l.length (T t).size then jT (T ft) l fo fun v=>K (u.put o.dst v) else False
  |_,_=>False):=by
  intro u K;unfold aop;rw [ho]<;>rfl
 intro K h
 rw [e] at h
 split at h
 ·rename_i l fo ft hl hf
  split at h
  ·rename_i v hv hb
   refine⟨iM o.dst (.data v),by rwa [← aC],aT,fun u hn hR K' hk=>?_⟩
   rw [e,bI hR,hl,hf]
   simp only [hv,hb]
   rwa [aC]
  ·exact h.elim
 ·rename_i l fo ft hl hf
  split at h
  ·rename_i v hv hb
   refine⟨iM o.dst (oZ v),by rwa [← aC],aT,fun u hn hR K' hk=>?_⟩
   rw [e,bI hR,hl,hf]
   simp only [hv,hb]
   rwa [aC]
  ·exact h.elim
 ·rename_i l fo ft hl hf
  cases hb:Nat.beq l.length (T t).size with
  |false=>simp [hb] at h
  |true=>
   simp only [hb,cond_true] at h
   obtain⟨v,hv,hk2⟩:=EN _ h
   refine⟨iM o.dst v,by rwa [← aC],aT,fun u hn hR K' hk=>?_⟩
   rw [e,bI hR,hl,hf]
   simp only [hb,cond_true]
   exact hk2 _ (by rwa [aC])
 ·exact h.elim
theorem Ra {x:Operand} (ho:o.op= .nilCheck x):Writes T C L o s (oK x++sK (s.ev x)) (dK o.dst):=by
 have e:∀(u:St) K,aop T C L o u K=(match u.ev x with
  | .box d g off=>bif (SV.box d g off).stands u then K (u.put o.dst (.box d g off)) else False
  | .ref a=>K (u.put o.dst (.ref a))
  | .dI a=>K (u.put o.dst (.dI a))
  | .fn f c=>K (u.put o.dst (.fn f c))
  | .fnr f c=>K (u.put o.dst (.fnr f c))
  |_=>False):=by
  intro u K;unfold aop;rw [ho]<;>rfl
 intro K h
 rw [e] at h
 split at h
 ·rename_i d g off hx
  cases hs:(SV.box d g off).stands s with
  |false=>simp [hs] at h
  |true=>
   simp only [hs,cond_true] at h
   refine⟨iM o.dst (.box d g off),by rwa [← aC],aT,fun u hn hR K' hk=>?_⟩
   rw [e,bI (fun k hk=>hR k (List.mem_append_left _ hk)),hx]
   simp only [gF (v:=.box d g off) (fun k hk=>hR k (List.mem_append_right _ (hx ▸ hk))),hs,cond_true]
   rwa [aC]
 all_goals first
  |exact h.elim
  |(rename_i hx
    refine⟨iM o.dst _,by rw [← aC];exact h,aT,fun u hn hR K' hk=>?_⟩
    rw [e,bI (fun k hk=>hR k (List.mem_append_left _ hk)),hx]
    rw [← aC] at hk;exact hk)
theorem OD {t:TypeId} {x:Operand} {f:Nat} (ho:o.op= .fieldAddr t x f):Writes T C L o s (oK x++sK (s.ev x)) (dK o.dst):=by
 have e:∀(u:St) K,aop T C L o u K=(match u.ev x,iX T t f with
  | .box d g off,some (fo,_)=>bif (SV.box d g off).stands u then K (u.put o.dst (.box d g (off+fo))) else False
  | .ref (.agg l),some (fo,ft)=>(match bW l fo (T ft) with
   |some v=>K (u.put o.dst (.ref v))
   |none=>False)
  | .dI (.agg l),some (fo,ft)=>(match bW l fo (T ft) with
   |some v=>K (u.put o.dst (.dI v))
   |none=>False)
  | .jy τ g k off,some (fo,_)=>bif (SV.jy τ g k off).stands u then K (u.put o.dst (.jy τ g k (off+fo))) else False
  |_,_=>False):=by
  intro u K;unfold aop;rw [ho]<;>rfl
 intro K h
 rw [e] at h
 split at h
 ·rename_i d g off fo ft hx hf
  cases hs:(SV.box d g off).stands s with
  |false=>simp [hs] at h
  |true=>
   simp only [hs,cond_true] at h
   refine⟨iM o.dst (.box d g (off+fo)),by rwa [← aC],aT,fun u hn hR K' hk=>?_⟩
   rw [e,bI (fun k hk=>hR k (List.mem_append_left _ hk)),hx,hf]
   simp only [gF (v:=.box d g off) (fun k hk=>hR k (List.mem_append_right _ (hx ▸ hk))),hs,cond_true]
   rwa [aC]
 ·rename_i l fo ft hx hf
  split at h
  ·rename_i v hv
   refine⟨iM o.dst (.ref v),by rwa [← aC],aT,fun u hn hR K' hk=>?_⟩
   rw [e,bI (fun k hk=>hR k (List.mem_append_left _ hk)),hx,hf]
   simp only [hv]
   rwa [aC]
  ·exact h.elim
 ·rename_i l fo ft hx hf
  split at h
  ·rename_i v hv
   refine⟨iM o.dst (.dI v),by rwa [← aC],aT,fun u hn hR K' hk=>?_⟩
   rw [e,bI (fun k hk=>hR k (List.mem_append_left _ hk)),hx,hf]
   simp only [hv]
   rwa [aC]
  ·exact h.elim
 ·rename_i τ g k off fo ft hx hf
  cases hs:(SV.jy τ g k off).stands s with
  |false=>simp [hs] at h
  |true=>
   simp only [hs,cond_true] at h
   refine⟨iM o.dst (.jy τ g k (off+fo)),by rwa [← aC],aT,fun u hn hR K' hk=>?_⟩
   rw [e,bI (fun k hk=>hR k (List.mem_append_left _ hk)),hx,hf]
   simp only [gF (v:=.jy τ g k off) (fun k hk=>hR k (List.mem_append_right _ (hx ▸ hk))),hs,cond_true]
   rwa [aC]
 ·exact h.elim
theorem OE {t:TypeId} {x i:Operand} (ho:o.op= .indexAddr t x i):Writes T C L o s (oK x++(oK i++sK (s.ev x))) (dK o.dst):=by
 have e:∀(u:St) K,aop T C L o u K=(match (T t).kind,u.ev x,u.ev i with
  | .slice E,.data (.sl l),.data (.int _ n)=>bif (T E).good then Idx l n fun _ x=>bif Nat.beq x.cells.length (T E).size then K (u.put o.dst (.ref x)) else False else False
  | .slice E,.old (.sl l),.data (.int _ n)=>bif (T E).good then Idx l n fun _ x=>bif Nat.beq x.cells.length (T E).size then K (u.put o.dst (.dI x)) else False else False
  | .slice E,.fr l,.data (.int _ n)=>bif (T E).good then Idx l n fun _ x=>bif Nat.beq x.cells.length (T E).size then K (u.put o.dst (.ref x)) else False else False
  | .slice E,.own τ g,.data (.int _ n)=>(match u.tok τ with
   |some tk=>bif Nat.beq tk.gen g&&Nat.beq tk.E E&&(T E).good then
     (bif tk.frz then Idx tk.l n fun _ x=>bif Nat.beq x.cells.length (T E).size then K (u.put o.dst (.ref x)) else False
      else Idx tk.l n fun k _=>K (u.put o.dst (.jy τ g k 0))) else False
   |none=>False)
  | .slice E,.bsl d g m,.data (.int _ n)=>bif (SV.bsl d g m).stands u&&(T E).good then VC (0≤n∧n < m) (K (u.put o.dst (.box d g (n.toNat*(T E).size)))) else False
  |_,_,_=>False):=by
  intro u K;unfold aop;rw [ho]<;>rfl
 intro K h
 rw [e] at h
 have hev:∀u:St,(∀k∈oK x++(oK i++sK (s.ev x)),same k s u)→u.ev x=s.ev x∧u.ev i=s.ev i:=fun u hR=>
  ⟨bI fun k hk=>hR k (by simp [hk]),bI fun k hk=>hR k (by simp [hk])⟩
 split at h
 ·rename_i E l k n hT hx hi
  cases hg:(T E).good with
  |false=>simp [hg] at h
  |true=>
   simp only [hg,cond_true] at h
   obtain⟨j,y,hj,hb⟩:=uI _ h
   cases hl:Nat.beq y.cells.length (T E).size with
   |false=>simp [hl] at hj
   |true=>
    simp only [hl,cond_true] at hj
    refine⟨iM o.dst (.ref y),by rwa [← aC],aT,fun u hn hR K' hk=>?_⟩
    rw [e,(hev u hR).1,(hev u hR).2,hT,hx,hi]
    simp only [hg,cond_true]
    refine hb _ ?_
    simp only [hl,cond_true]
    rwa [aC]
 ·rename_i E l k n hT hx hi
  cases hg:(T E).good with
  |false=>simp [hg] at h
  |true=>
   simp only [hg,cond_true] at h
   obtain⟨j,y,hj,hb⟩:=uI _ h
   cases hl:Nat.beq y.cells.length (T E).size with
   |false=>simp [hl] at hj
   |true=>
    simp only [hl,cond_true] at hj
    refine⟨iM o.dst (.dI y),by rwa [← aC],aT,fun u hn hR K' hk=>?_⟩
    rw [e,(hev u hR).1,(hev u hR).2,hT,hx,hi]
    simp only [hg,cond_true]
    refine hb _ ?_
    simp only [hl,cond_true]
    rwa [aC]
 ·rename_i E l k n hT hx hi
  cases hg:(T E).good with
  |false=>simp [hg] at h
  |true=>
   simp only [hg,cond_true] at h
   obtain⟨j,y,hj,hb⟩:=uI _ h
   cases hl:Nat.beq y.cells.length (T E).size with
   |false=>simp [hl] at hj
   |true=>
    simp only [hl,cond_true] at hj
    refine⟨iM o.dst (.ref y),by rwa [← aC],aT,fun u hn hR K' hk=>?_⟩
    rw [e,(hev u hR).1,(hev u hR).2,hT,hx,hi]
    simp only [hg,cond_true]
    refine hb _ ?_
    simp only [hl,cond_true]
    rwa [aC]
 ·rename_i E τ g k n hT hx hi
  split at h
  ·rename_i tk htk
   have YS:∀u:St,(∀k∈oK x++(oK i++sK (s.ev x)),same k s u)→u.tok τ=some tk:=fun u hR=>by
    have:=hR (.tok τ) (by simp [hx,sK]);simp only [same] at this;rw [← this,htk]
   cases hg:(Nat.beq tk.gen g&&Nat.beq tk.E E&&(T E).good) with
   |false=>simp only [hg,cond_false] at h
   |true=>
    simp only [hg,cond_true] at h
    cases hf:tk.frz with
    |true=>
     simp only [hf,cond_true] at h
     obtain⟨j,y,hj,hb⟩:=uI _ h
     cases hl:Nat.beq y.cells.length (T E).size with
     |false=>simp [hl] at hj
     |true=>
      simp only [hl,cond_true] at hj
      refine⟨iM o.dst (.ref y),by rwa [← aC],aT,fun u hn hR K' hk=>?_⟩
      rw [e,(hev u hR).1,(hev u hR).2,hT,hx,hi]
      simp only [YS u hR,hg,hf,cond_true]
      refine hb _ ?_
      simp only [hl,cond_true]
      rwa [aC]
    |false=>
     simp only [hf,cond_false] at h
     obtain⟨j,y,hj,hb⟩:=uI _ h
     refine⟨iM o.dst (.jy τ g j 0),by rwa [← aC],aT,fun u hn hR K' hk=>?_⟩
     rw [e,(hev u hR).1,(hev u hR).2,hT,hx,hi]
     simp only [YS u hR,hg,hf,cond_true,cond_false]
     refine hb _ ?_
     rwa [aC]
  ·exact h.elim
 ·rename_i E d g m k n hT hx hi
  cases hs:((SV.bsl d g m).stands s&&(T E).good) with
  |false=>simp [hs] at h
  |true=>
   simp only [hs,cond_true] at h
   refine⟨iM o.dst (.box d g (n.toNat*(T E).size)),by rw [← aC];exact h.k,aT,fun u hn hR K' hk=>?_⟩
   rw [e,(hev u hR).1,(hev u hR).2,hT,hx,hi]
   have e2:(SV.bsl d g m).stands u=(SV.bsl d g m).stands s:=gF fun k hk=>hR k (by rw [hx];simp [hk])
   simp only [e2,hs,cond_true]
   exact⟨h.h,by rwa [aC]⟩
 ·exact h.elim
end
end Go.Proofs.YtjfnojijdggfhaaGreat.Abs
namespace Go.Proofs.YtjfnojijdggfhaaGreat.Abs
section
variable {T:Nat→Ty} {C:Nat→List AR→(RV→Prop)→Prop} {L:Nat} {o:Oper} {s:St}
def OG (s:St) (τ:Nat):Bool:=match s.tok τ with|some t=>t.frz|none=>false
theorem Gx (s:St):Fz (OG s) s:=by
 intro τ h
 simp only [OG] at h
 split at h
 ·rename_i t ht;exact⟨t,ht,h⟩
 ·cases h
def qg (g:Operand→SV):List (Nat×Operand)→List Key
 |[]=>[]
 |(_,x)::r=>oK x++(sK (g x)++qg g r)
theorem EO {fs:List (Nat×Nat)} {u:St}:∀{l:List (Nat×Operand)} {cells:List SV},(∀k∈qg s.ev l,same k s u)→lQ T fs u l cells=lQ T fs s l cells
 |[],_,_=>rfl
 |(i,x)::r,cells,h=>by
  simp only [qg,List.mem_append] at h
  have e1:u.ev x=s.ev x:=bI fun k hk=>h k (.inl hk)
  have e2:(s.ev x).stands u=(s.ev x).stands s:=gF fun k hk=>h k (.inr (.inl hk))
  have e3:∀cells,lQ T fs u r cells=lQ T fs s r cells:=fun cells=>EO fun k hk=>h k (.inr (.inr hk))
  simp only [lQ,e1,e2,e3]
theorem WC {t:TypeId} {parts:Array (Nat×Operand)} (ho:o.op= .build t parts):Writes T C L o s (qg s.ev parts.toList) (dK o.dst):=by
 have e:∀(u:St) K,aop T C L o u K=(match (T t).kind with
  | .struct fs=>(match lQ T fs u parts.toList ((T t).zero.map vQ) with
   |some cells=>K (u.put o.dst (EI cells))
   |none=>False)
  |_=>False):=by
  intro u K;unfold aop;rw [ho]<;>rfl
 intro K h
 rw [e] at h
 split at h
 ·rename_i fs hT
  split at h
  ·rename_i cells hc
   refine⟨iM o.dst (EI cells),by rwa [← aC],aT,fun u hn hR K' hk=>?_⟩
   rw [e,hT]
   simp only [EO hR,hc]
   rwa [aC]
  ·exact h.elim
 ·exact h.elim
def elR (g:Operand→SV):List (Nat×Operand)→List Key
 |[]=>[]
 |(_,x)::r=>(oK x++eRV (g x))++elR g r
def elW (g:Operand→SV):List (Nat×Operand)→List Key
 |[]=>[]
 |(_,x)::r=>eRV (g x)++elW g r
theorem XO {ws:List Wr} (h:∀w∈ws,w.nS=true):(s.app ws).ev=s.ev:=by
 funext x
 cases x<;>simp [St.ev,SK h]
theorem Ho {fz:Nat→Bool} {τ:Nat} {x:Operand}:eG fz (fun s K=>qW τ s (s.ev x) fun a q s'=>K (a,q) s') s (oK x++eRV (s.ev x)) (eRV (s.ev x)):=by
 intro hz K h
 obtain⟨y,ws,h1,h2,h3,h4,h5⟩:=TU (fz:=fz) (τ:=τ) (v:=s.ev x) (s:=s) hz K h
 refine⟨y,ws,h1,h2,h3,h4,fun t hn hR K' hk=>?_⟩
 show qW τ t (t.ev x) fun a q s'=>K' (a,q) s'
 rw [bI fun k hk=>hR k (List.mem_append_left _ hk)]
 exact h5 t hn (fun k hk=>hR k (List.mem_append_right _ hk)) K' hk
theorem KQ {fz:Nat→Bool} {z:List ZC} {τ:Nat}:∀{l:List (Nat×Operand)} {i:Nat} {s:St},eG fz (fun s K=>rV z τ s i l fun a q s'=>K (a,q) s') s (elR s.ev l) (elW s.ev l)
 |[],_,_=>eG.pure (x:=(([]:List AV),true))
 |(j,x)::r,i,s=>by
  simp only [rV,elR,elW]
  cases hb:Nat.beq i j with
  |false=>exact eG.false fun K h=>by simp at h
  |true=>
   simp only [cond_true]
   refine (Ho (τ:=τ) (x:=x)).bind (G:=fun a s1 K=>bif bO z a.1.cells then rV z τ s1 (i+1) r fun as q' s2=>K (a.1::as,a.2&&q') s2 else False) fun a ws hws=>?_
   cases hc:bO z a.1.cells with
   |false=>exact eG.false fun K h=>by simp at h
   |true=>
    simp only [cond_true]
    have:=(KQ (fz:=fz) (z:=z) (τ:=τ) (l:=r) (i:=i+1) (s:=s.app ws)).map fun as=>(a.1::as.1,a.2&&as.2)
    rwa [XO hws] at this
theorem EP {sz:Nat} {u:St}:∀{l:List (Nat×Operand)} {i:Nat},(∀k∈qg s.ev l,same k s u)→oG sz u i l=oG sz s i l
 |[],_,_=>rfl
 |(j,x)::r,i,h=>by
  simp only [qg,List.mem_append] at h
  have e1:u.ev x=s.ev x:=bI fun k hk=>h k (.inl hk)
  have e2:(s.ev x).stands u=(s.ev x).stands s:=gF fun k hk=>h k (.inr (.inl hk))
  simp only [oG,e1,e2,EP (l:=r) (i:=i+1) fun k hk=>h k (.inr (.inr hk))]
theorem Mw {t:TypeId} {n:Nat} {parts:Array (Nat×Operand)} (ho:o.op= .buildSlice t n parts) {d:Nat} (hd:o.dst=some d):
  Writes T C L o s (.mem d::.tok d::(elR s.ev parts.toList++qg s.ev parts.toList)) (.mem d::.tok d::.slot d::elW s.ev parts.toList):=by
 have e:∀(u:St) K,aop T C L o u K=(match (T t).kind,(some d:Option Nat) with
  | .slice E,some d=>bif Nat.beq n parts.toList.length&&(T E).good&&Nat.ble (n*(T E).size) 1000&&Nat.blt d 1000000 then
    bif wide (T E) n then (match oG (T E).size u 0 parts.toList with
     |some cells=>(let r:=bP u d cells;K (r.2.set d (.bsl d (fZ (u.mem d)) n)))
     |none=>False)
    else rV (T E).zero d u 0 parts.toList fun as q s1=>(let r:=eY s1 d E as ((T E).flat||q);K (r.2.set d r.1)) else False
  |_,_=>False):=by
  intro u K;unfold aop;rw [ho,hd]<;>rfl
 intro K h
 rw [e] at h
 cases hT:(T t).kind with
 |slice E=>
  simp only [hT] at h
  cases hb:(Nat.beq n parts.toList.length&&(T E).good&&Nat.ble (n*(T E).size) 1000&&Nat.blt d 1000000) with
  |false=>simp only [hb,cond_false] at h
  |true=>
   simp only [hb,cond_true] at h
   cases hw:wide (T E) n with
   |true=>
    simp only [hw,cond_true] at h
    cases hc:oG (T E).size s 0 parts.toList with
    |none=>simp only [hc] at h
    |some cells=>
     simp only [hc] at h
     refine⟨[.mem d (fZ (s.mem d)) cells,.slot d (.bsl d (fZ (s.mem d)) n)],h,by simp [Wr.key],fun u hn hR K' hk=>?_⟩
     rw [e,hT]
     have e1:u.mem d=s.mem d:=by have:=hR (.mem d) (by simp);simp only [same] at this;exact this.symm
     simp only [hb,cond_true,hw,EP (s:=s) (u:=u) (i:=0) (sz:=(T E).size) (l:=parts.toList) (fun k hk=>hR k (by simp [hk])),hc]
     simp only [bP,e1]
     exact hk
   |false=>
   simp only [hw,cond_false] at h
   obtain⟨as,ws,h1,h2,h3,h4,h5⟩:=KQ (s:=s) (z:=(T E).zero) (τ:=d) (Gx s) (fun x s1=>K ((eY s1 d E x.1 ((T E).flat||x.2)).2.set d (eY s1 d E x.1 ((T E).flat||x.2)).1)) h
   obtain⟨v,us,g1,g2,g3,g4⟩:=qd (s:=s.app ws) (τ:=d) (E:=E) (l:=as.1) (q:=(T E).flat||as.2)
   rw [g1] at h1
   refine⟨ws++(us++[.slot d v]),by rw [St.aF,St.aF];exact h1,?_,fun u hn hR K' hk=>?_⟩
   ·intro w hw
    rcases List.mem_append.1 hw with hw|hw
    ·exact List.mem_cons_of_mem _ (List.mem_cons_of_mem _ (List.mem_cons_of_mem _ (h4 w hw)))
    ·rcases List.mem_append.1 hw with hw|hw
     ·have:=g3 w hw;simp at this;simp [this]
     ·simp at hw;subst hw;simp [Wr.key]
   ·rw [e,hT]
    simp only [hb,cond_true,hw,cond_false]
    refine h5 u hn (fun k hk=>hR k (List.mem_cons_of_mem _ (List.mem_cons_of_mem _ (List.mem_append_left _ hk)))) (fun x s1=>K' ((eY s1 d E x.1 ((T E).flat||x.2)).2.set d (eY s1 d E x.1 ((T E).flat||x.2)).1)) ?_
    rw [g4 (u.app ws) (gW hn.symm (hR _ (by simp)))]
    rw [St.aF,St.aF] at hk;exact hk
 |_=>simp only [hT] at h
theorem Rb {t:TypeId} {a x:Operand} (ho:o.op= .store t a x) {d g off:Nat} (ha:s.ev a= .box d g off):
  Writes T C L o s (oK a++(oK x++(.mem d::sK (s.ev x)))) (.mem d::dK o.dst):=by
 have e:∀(u:St) K,u.ev a= .box d g off→aop T C L o u K=(match (u.ev x).cells,u.mem d with
   |some new,some (g',cells)=>bif Nat.beq g' g&&(T t).good&&(u.ev x).stands u&&Nat.beq new.length (T t).size&&Nat.ble (off+new.length) cells.length then
     K ((u.dJ d g (splice cells off new)).put o.dst .undef) else False
   |_,_=>False):=by
  intro u K h;unfold aop;rw [ho];simp only [h]<;>rfl
 intro K h
 rw [e s K ha] at h
 split at h
 ·rename_i new g' cells hc hm
  cases hb:(Nat.beq g' g&&(T t).good&&(s.ev x).stands s&&Nat.beq new.length (T t).size&&Nat.ble (off+new.length) cells.length) with
  |false=>simp only [hb,cond_false] at h
  |true=>
   simp only [hb,cond_true] at h
   refine⟨.mem d g (splice cells off new)::iM o.dst .undef,by rw [aC] at h;exact h,?_,fun u hn hR K' hk=>?_⟩
   ·intro w hw
    rcases List.mem_cons.1 hw with rfl|hw
    ·simp [Wr.key]
    ·exact List.mem_cons_of_mem _ (aT w hw)
   ·have e1:u.ev a=s.ev a:=bI fun k hk=>hR k (by simp [hk])
    have e2:u.ev x=s.ev x:=bI fun k hk=>hR k (by simp [hk])
    have e3:u.mem d=some (g',cells):=by
     have:=hR (.mem d) (by simp);simp only [same] at this;rw [← this,hm]
    have e4:(s.ev x).stands u=(s.ev x).stands s:=gF fun k hk=>hR k (by simp [hk])
    rw [e u K' (by rw [e1,ha]),e2,e3]
    simp only [hc,e4,hb,cond_true]
    rw [aC];exact hk
 ·exact h.elim
theorem OH {t:TypeId} {a x:Operand} (ho:o.op= .store t a x) {τ g k off:Nat} (ha:s.ev a= .jy τ g k off):
  Writes T C L o s (oK a++(.tok τ::(oK x++eRV (s.ev x)))) (.tok τ::(dK o.dst++eRV (s.ev x))):=by
 have e:∀(u:St) K,u.ev a= .jy τ g k off→aop T C L o u K=(bif (T t).good then qW τ u (u.ev x) fun v q s1=>(match s1.tok τ with
   |some tk=>bif Nat.beq tk.gen g&& !tk.frz&&bO (T t).zero v.cells&&wE (T tk.E) (T t) off then
     Idx tk.l k fun j e=>bif Nat.ble (off+(T t).size) e.cells.length then
      K ((s1.aU τ { tk with l:=tk.l.set j (fF e off v),lin:=tk.lin&&((T t).flat||q) }).put o.dst .undef) else False
     else False
   |none=>False) else False):=by
  intro u K h;unfold aop;rw [ho];simp only [h]<;>rfl
 intro K h
 rw [e s K ha] at h
 cases hg:(T t).good with
 |false=>simp [hg] at h
 |true=>
  simp only [hg,cond_true] at h
  obtain⟨⟨v,q⟩,ws,h1,h2,h3,h4,h5⟩:=Ho (s:=s) (τ:=τ) (x:=x) (Gx s) (fun y s1=>(match s1.tok τ with
   |some tk=>bif Nat.beq tk.gen g&& !tk.frz&&bO (T t).zero y.1.cells&&wE (T tk.E) (T t) off then
     Idx tk.l k fun j e=>bif Nat.ble (off+(T t).size) e.cells.length then
      K ((s1.aU τ { tk with l:=tk.l.set j (fF e off y.1),lin:=tk.lin&&((T t).flat||y.2) }).put o.dst .undef) else False
     else False
   |none=>False)) h
  dsimp only at h1
  split at h1
  ·rename_i tk htk
   cases hb:(Nat.beq tk.gen g&& !tk.frz&&bO (T t).zero v.cells&&wE (T tk.E) (T t) off) with
   |false=>simp only [hb,cond_false] at h1
   |true=>
    simp only [hb,cond_true] at h1
    obtain⟨j,y,hj,hi⟩:=uI _ h1
    cases hl:Nat.ble (off+(T t).size) y.cells.length with
    |false=>simp [hl] at hj
    |true=>
     simp only [hl,cond_true] at hj
     refine⟨ws++(.tok τ { tk with l:=tk.l.set j (fF y off v),lin:=tk.lin&&((T t).flat||q) }::iM o.dst .undef),?_,?_,fun u hn hR K' hk=>?_⟩
     ·rw [St.aF];rw [aC] at hj;exact hj
     ·intro w hw
      rcases List.mem_append.1 hw with hw|hw
      ·have:=h4 w hw;simp [this]
      ·rcases List.mem_cons.1 hw with rfl|hw
       ·simp [Wr.key]
       ·have:=aT w hw;simp [this]
     ·have e1:u.ev a=s.ev a:=bI fun k hk=>hR k (by simp [hk])
      rw [e u K' (by rw [e1,ha]),hg]
      simp only [cond_true]
      refine h5 u hn (fun k hk=>hR k (by simp only [List.mem_append,List.mem_cons] at hk ⊢;exact .inr (.inr hk))) (fun y s1=>(match s1.tok τ with
   |some tk=>bif Nat.beq tk.gen g&& !tk.frz&&bO (T t).zero y.1.cells&&wE (T tk.E) (T t) off then
     Idx tk.l k fun j e=>bif Nat.ble (off+(T t).size) e.cells.length then
      K' ((s1.aU τ { tk with l:=tk.l.set j (fF e off y.1),lin:=tk.lin&&((T t).flat||y.2) }).put o.dst .undef) else False
     else False
   |none=>False)) ?_
      have e2:(u.app ws).tok τ=some tk:=by
       have:same (.tok τ) (s.app ws) (u.app ws):=gW hn.symm (hR _ (by simp))
       simp only [same] at this;rw [← this,htk]
      simp only [e2,hb,cond_true]
      refine hi _ ?_
      simp only [hl,cond_true]
      rw [St.aF] at hk
      rw [aC];exact hk
  ·exact h1.elim
end
section
variable {T:Nat→Ty} {C:Nat→List AR→(RV→Prop)→Prop} {L:Nat} {o:Oper} {s:St}
def appW (d:Option Nat):List SV→List Key
 | .own τ _::r=>.tok τ::eRL r
 | .aj::r=>(match d with|some d=>.tok d::eRL r|none=>[])
 |_=>[]
def dY (d:Option Nat):Builtin→List SV→List Key
 | .append,vs=>appW d vs
 |_,_=>[]
theorem KR {τ:Nat} {y:SV}:∃ws,jY τ s y=s.app ws∧(∀w∈ws,w.nS=true)∧(∀w∈ws,w.key∈eR y)∧∀t:St,(∀k∈eR y,same k s t)→jY τ t y=t.app ws∧oP τ t y=oP τ s y:=by
 cases y with
 |own σ g=>
  cases hs:s.tok σ with
  |none=>
   refine⟨[],by simp [jY,hs,St.app],by simp,by simp,fun t ht=>?_⟩
   have:=ht (.tok σ) (by simp [eR]);simp only [same] at this
   simp [jY,oP, ← this,hs,St.app]
  |some tk=>
   refine⟨[.tok σ { tk with lin:=tk.lin&&Nat.beq σ τ }],by simp [jY,hs,St.app,St.wr],by simp [Wr.nS],by simp [Wr.key,eR],fun t ht=>?_⟩
   have:=ht (.tok σ) (by simp [eR]);simp only [same] at this
   simp [jY,oP, ← this,hs,St.app,St.wr]
 |_=>exact⟨[],rfl,by simp,by simp,fun t _=>⟨rfl,rfl⟩⟩
theorem SL {vs:List SV} {v:SV} (h:v∈vs):∀k∈sK v,k∈sKs vs:=by
 induction vs with
 |nil=>simp at h
 |cons u r ih=>
  intro k hk
  simp only [sKs,List.mem_append]
  rcases List.mem_cons.1 h with rfl|h
  ·exact .inl hk
  ·exact .inr (ih h k hk)
theorem OI {b:Builtin} {ts:List Nat} {vs:List SV} {d:Option Nat} {K:St→Prop} (h:eB T L s d b ts vs K):
  ∃ws,K (s.app ws)∧(∀w∈ws,w.key∈dK d++dY d b vs)∧∀t:St,t.n=s.n→(∀k∈sKs vs++dY d b vs,same k s t)→∀K':St→Prop,K' (t.app ws)→eB T L t d b ts vs K':=by
 unfold eB at h
 split at h
 ·-- len
  split at h
  ·rename_i t0
   split at h
   ·rename_i x _ _ _ E l hT hc
    refine⟨iM d (.data (.int .i64 l.length)),by rwa [← aC],fun w hw=>List.mem_append_left _ (aT w hw),fun t hn hR K' hk=>?_⟩
    have:t.content x=s.content x:=uH fun k hk=>hR k (List.mem_append_left _ (SL (by simp) k hk))
    rw [hc] at this
    simp only [eB,hT,this]
    rwa [aC]
   ·rename_i b' hT
    refine⟨iM d (.data (.int .i64 b'.size)),by rwa [← aC],fun w hw=>List.mem_append_left _ (aT w hw),fun t hn hR K' hk=>?_⟩
    simp only [eB,hT]
    rwa [aC]
   ·rename_i E l hT hc
    refine⟨iM d (.data (.int .i64 l.length)),by rwa [← aC],fun w hw=>List.mem_append_left _ (aT w hw),fun t hn hR K' hk=>?_⟩
    have:t.content (.old (.sl l))=none:=rfl
    simp only [eB,hT,this]
    rwa [aC]
   ·rename_i E b g n hT hc
    cases hs:(SV.bsl b g n).stands s with
    |false=>simp only [hs,cond_false] at h
    |true=>
     simp only [hs,cond_true] at h
     refine⟨iM d (.data (.int .i64 (n:Nat))),by rwa [← aC],fun w hw=>List.mem_append_left _ (aT w hw),fun t hn hR K' hk=>?_⟩
     have:t.content (.bsl b g n)=none:=rfl
     have e2:(SV.bsl b g n).stands t=(SV.bsl b g n).stands s:=gF fun k hk=>hR k (by simp [sKs,hk])
     simp only [eB,hT,this,e2,hs,cond_true]
     rwa [aC]
   ·exact h.elim
  ·exact h.elim
 ·-- max
  rename_i k x k' y
  cases hb:decide (k=k') with
  |false=>simp only [hb,cond_false] at h
  |true=>
   simp only [hb,cond_true] at h
   refine⟨iM d (.data (.int k (max x y))),by rwa [← aC],fun w hw=>List.mem_append_left _ (aT w hw),fun t hn hR K' hk=>?_⟩
   simp only [eB,hb,cond_true]
   rwa [aC]
 ·-- min
  rename_i k x k' y
  cases hb:decide (k=k') with
  |false=>simp only [hb,cond_false] at h
  |true=>
   simp only [hb,cond_true] at h
   refine⟨iM d (.data (.int k (min x y))),by rwa [← aC],fun w hw=>List.mem_append_left _ (aT w hw),fun t hn hR K' hk=>?_⟩
   simp only [eB,hb,cond_true]
   rwa [aC]
 ·-- append
  rename_i x y
  split at h
  ·rename_i m t1 t2 dd hc
   split at h
   ·rename_i E hT
    cases hb:((T E).good&&Nat.beq t1 t2) with
    |false=>simp only [hb,cond_false] at h
    |true=>
     simp only [hb,cond_true] at h
     have hcy:∀t:St,(∀k∈sKs [x,y]++dY (some dd) .append [x,y],same k s t)→t.content y=some m:=fun t hR=>by
      rw [← hc];exact uH fun k hk=>hR k (List.mem_append_left _ (SL (by simp) k hk))
     split at h
     ·rename_i τ g
      split at h
      ·rename_i tk htk
       cases hg:(Nat.beq tk.gen g&& !tk.frz&&Nat.beq tk.E E) with
       |false=>simp only [hg,cond_false] at h
       |true=>
        simp only [hg,cond_true] at h
        have ht:∀t:St,(∀k∈sKs [SV.own τ g,y]++dY (some dd) .append [SV.own τ g,y],same k s t)→t.tok τ=some tk:=fun t hR=>by
         have:=hR (.tok τ) (by simp [dY,appW]);simp only [same] at this;rw [← this,htk]
        cases hfz:(T E).flat with
        |true=>
         have hkk:=h.k
         simp only [hfz,cond_true] at hkk
         refine⟨[.tok τ ⟨g+1,false,E,tk.l++m,true⟩,.slot dd (.own τ (g+1))],hkk,by simp [Wr.key,dK,dY,appW],fun t hn hR K' hk=>?_⟩
         simp only [eB,hcy t hR,hT,hb,ht t hR,hg,cond_true,hfz]
         exact⟨h.h,hk⟩
        |false=>
         have hkk:=h.k
         simp only [hfz,cond_false] at hkk
         obtain⟨ws,u1,u2,u3,u4⟩:=KR (s:=s) (τ:=τ) (y:=y)
         rw [u1] at hkk
         refine⟨ws++[.tok τ ⟨g+1,false,E,tk.l++m,tk.lin&&oP τ s y⟩,.slot dd (.own τ (g+1))],by rw [St.aF];exact hkk,?_,fun t hn hR K' hk=>?_⟩
         ·intro w hw
          rcases List.mem_append.1 hw with hw|hw
          ·have:=u3 w hw;simp [dY,appW,eRL,this]
          ·simp at hw;rcases hw with rfl|rfl<;>simp [Wr.key,dK,dY,appW]
         ·obtain⟨e1,e2⟩:=u4 t fun k hk=>hR k (by simp [dY,appW,eRL,hk])
          simp only [eB,hcy t hR,hT,hb,ht t hR,hg,cond_true,hfz,cond_false,e1,e2]
          rw [St.aF] at hk
          exact⟨h.h,hk⟩
      ·exact h.elim
     ·cases hfz:(T E).flat with
      |true=>
       obtain⟨v,ws,h1,h2,h3,h4⟩:=qd (s:=s) (τ:=dd) (E:=E) (l:=m) (q:=true)
       have hk:=h.k
       simp only [hfz,cond_true,h1] at hk
       refine⟨ws++[.slot dd v],by rw [St.aF];exact hk,?_,fun t hn hR K' hk=>?_⟩
       ·intro w hw
        rcases List.mem_append.1 hw with hw|hw
        ·have:=h3 w hw;simp at this;simp [this,dY,appW]
        ·simp at hw;subst hw;simp [Wr.key,dK]
       ·simp only [eB,hcy t hR,hT,hb,cond_true,hfz]
        refine⟨h.h,?_⟩
        rw [h4 t (hR _ (by simp [dY,appW]))]
        rw [St.aF] at hk;exact hk
      |false=>
       obtain⟨us,u1,u2,u3,u4⟩:=KR (s:=s) (τ:=dd) (y:=y)
       obtain⟨v,ws,h1,h2,h3,h4⟩:=qd (s:=s.app us) (τ:=dd) (E:=E) (l:=m) (q:=oP dd s y)
       have hk:=h.k
       simp only [hfz,cond_false,u1,h1] at hk
       refine⟨us++(ws++[.slot dd v]),by rw [St.aF,St.aF];exact hk,?_,fun t hn hR K' hk=>?_⟩
       ·intro w hw
        rcases List.mem_append.1 hw with hw|hw
        ·have:=u3 w hw;simp [dY,appW,eRL,this]
        ·rcases List.mem_append.1 hw with hw|hw
         ·have:=h3 w hw;simp at this;simp [this,dY,appW]
         ·simp at hw;subst hw;simp [Wr.key,dK]
       ·obtain⟨e1,e2⟩:=u4 t fun k hk=>hR k (by simp [dY,appW,eRL,hk])
        simp only [eB,hcy t hR,hT,hb,cond_true,hfz,cond_false,e1,e2]
        refine⟨h.h,?_⟩
        rw [h4 (t.app us) (gW hn.symm (hR _ (by simp [dY,appW])))]
        rw [St.aF,St.aF] at hk;exact hk
     ·exact h.elim
   ·exact h.elim
  ·exact h.elim
 ·exact h.elim
theorem TY {c:Call} (ho:o.op= .call c) {b:Builtin} (hb:c.callee= .builtin b):
  Writes T C L o s (oKs c.args.toList++(sKs (c.args.toList.map s.ev)++dY o.dst b (c.args.toList.map s.ev))) (dK o.dst++dY o.dst b (c.args.toList.map s.ev)):=by
 have e:∀(u:St) K,aop T C L o u K=eB T L u o.dst b c.argTypes.toList (c.args.toList.map u.ev) K:=by
  intro u K;unfold aop;rw [ho];simp only [hb]
 intro K h
 rw [e] at h
 obtain⟨ws,h1,h2,h3⟩:=OI h
 refine⟨ws,h1,h2,fun t hn hR K' hk=>?_⟩
 rw [e,nT fun k hk=>hR k (List.mem_append_left _ hk)]
 exact h3 t hn (fun k hk=>hR k (List.mem_append_right _ hk)) K' hk
end
section
variable {T:Nat→Ty} {C:Nat→List AR→(RV→Prop)→Prop} {L:Nat} {o:Oper} {s:St}
def eRB (m:Nat→Option (Nat×List SV)):SV→List Key
 | .box d _ _=>.mem d::(match m d with|some (_,cs)=>eRL cs|none=>[])
 |_=>[]
def eWB (m:Nat→Option (Nat×List SV)) (fz:Nat→Bool):SV→List Key
 | .box d _ _=>(match m d with|some (_,cs)=>eWL fz cs|none=>[])
 |_=>[]
def XP (m:Nat→Option (Nat×List SV)):List SV→List Key
 |[]=>[]
 |v::r=>eRB m v++XP m r
def XQ (m:Nat→Option (Nat×List SV)) (fz:Nat→Bool):List SV→List Key
 |[]=>[]
 |v::r=>eWB m fz v++XQ m fz r
def eRA (m:Nat→Option (Nat×List SV)):SV→List Key
 | .fn _ caps=>XP m caps
 | .box d g off=>eRB m (.box d g off)
 |v=>eRV v
def eWA (m:Nat→Option (Nat×List SV)) (fz:Nat→Bool):SV→List Key
 | .fn _ caps=>XQ m fz caps
 | .box d g off=>eWB m fz (.box d g off)
 |v=>eWV fz v
def Vb (m:Nat→Option (Nat×List SV)):List SV→List Key
 |[]=>[]
 |v::r=>eRA m v++Vb m r
def Vd (m:Nat→Option (Nat×List SV)) (fz:Nat→Bool):List SV→List Key
 |[]=>[]
 |v::r=>eWA m fz v++Vd m fz r
theorem Mx {fz:Nat→Bool} {v:SV} {m:Nat→Option (Nat×List SV)} {s:St} (hm:s.mem=m):eG fz (fun s K=>jf s v K) s (eRB m v) (eWB m fz v):=by
 subst hm
 cases v with
 |ref a=>intro hz K h;exact⟨a,[],h,hz,by simp,by simp,fun _ _ _ _ hk=>hk⟩
 |box d g off=>
  intro hz K h
  cases off with
  |succ n=>exact h.elim
  |zero=>
  simp only [jf] at h
  simp only [eRB,eWB]
  cases hd:s.mem d with
  |none=>simp [hd] at h
  |some p=>
   obtain⟨g',cells⟩:=p
   simp only [hd] at h
   cases hg:Nat.beq g' g with
   |false=>simp [hg] at h
   |true=>
    simp only [hg,cond_true] at h
    have hF:∀t:St,(∀k∈[Key.mem d],same k s t)→∀K',(match cells with|[c]=>erase t c K'|cs=>mG t cs fun as s1=>K' (.agg as) s1)→jf t (.box d g 0) K':=by
     intro t ht K' hk
     have:=ht (.mem d) (by simp);simp only [same] at this
     simp only [jf, ← this,hd,hg,cond_true]
     exact hk
    match cells,h with
    |[c],h=>
     obtain⟨x,ws,h1,h2,h3,h4,h5⟩:=yh (fz:=fz) (v:=c) (s:=s) hz K h
     exact⟨x,ws,h1,h2,h3,fun w hw=>by simp only [eWL,List.append_nil];exact h4 w hw,fun t hn hR K' hk=>hF t (fun k hk=>hR k (by simp at hk;simp [hk])) K' (h5 t hn (fun k hk=>hR k (by simp only [eRL,List.append_nil];exact List.mem_cons_of_mem _ hk)) K' hk)⟩
    |[],h=>
     obtain⟨x,ws,h1,h2,h3,h4,h5⟩:=(uG (fz:=fz) (l:=[]) (s:=s)).map AV.agg hz K h
     exact⟨x,ws,h1,h2,h3,h4,fun t hn hR K' hk=>hF t (fun k hk=>hR k (by simp at hk;simp [hk])) K' (h5 t hn (fun k hk=>hR k (List.mem_cons_of_mem _ hk)) K' hk)⟩
    |c::c'::r,h=>
     obtain⟨x,ws,h1,h2,h3,h4,h5⟩:=(uG (fz:=fz) (l:=c::c'::r) (s:=s)).map AV.agg hz K h
     exact⟨x,ws,h1,h2,h3,h4,fun t hn hR K' hk=>hF t (fun k hk=>hR k (by simp at hk;simp [hk])) K' (h5 t hn (fun k hk=>hR k (List.mem_cons_of_mem _ hk)) K' hk)⟩
 |_=>exact eG.false fun K h=>h
theorem wM {fz:Nat→Bool} {m:Nat→Option (Nat×List SV)}:∀{l:List SV} {s:St},s.mem=m→eG fz (fun s K=>iL s l K) s (XP m l) (XQ m fz l)
 |[],_,_=>eG.pure
 |v::r,s,hm=>(Mx hm).bind fun x ws hws=>(wM (l:=r) (by rw [Mt hws,hm])).map fun as=>x::as
theorem zR {fz:Nat→Bool}:∀{l:List SV} {s:St},eG fz (fun s K=>pW s l K) s (eRL l) (eWL fz l)
 |[],_=>eG.pure
 |v::r,s=>by
  have go:∀s:St,eG fz (fun s K=>erase s v fun a s1=>pW s1 r fun as s2=>K (.data a::as) s2) s (eRL (v::r)) (eWL fz (v::r)):=fun s=>(yh (v:=v)).bind fun x _ _=>(zR (l:=r)).map fun as=>.data x::as
  cases v with
  |aj=>exact (zR (l:=r) (s:=s)).map fun as=>.aj::as
  |_=>exact go s
theorem JW {fz:Nat→Bool} {m:Nat→Option (Nat×List SV)} {v:SV} {s:St} (hm:s.mem=m):eG fz (fun s K=>jg s v K) s (eRA m v) (eWA m fz v):=by
 cases v with
 |fn f caps=>exact (wM (l:=caps) hm).map (AR.fn f)
 |fnr f caps=>exact eG.pure
 |old a=>exact eG.pure
 |iF l=>exact (zQ (v:=.iF l)).map AR.d
 |own τ g=>exact (zQ (v:=.own τ g)).map AR.d
 |data a=>exact eG.pure
 |aj=>exact eG.pure
 |argv i j a=>exact eG.pure
 |fr l=>exact eG.pure
 |box d g off=>
  subst hm
  intro hz K h
  cases off with
  |succ n=>exact h.elim
  |zero=>
  simp only [jg] at h
  simp only [eRA,eWA,eRB,eWB]
  cases hd:s.mem d with
  |none=>simp [hd] at h
  |some p=>
   obtain⟨g',cells⟩:=p
   simp only [hd] at h
   cases hg:Nat.beq g' g with
   |false=>simp [hg] at h
   |true=>
    simp only [hg,cond_true] at h
    obtain⟨x,ws,h1,h2,h3,h4,h5⟩:=(zR (fz:=fz) (l:=cells) (s:=s)).map AR.bx hz K h
    refine⟨x,ws,h1,h2,h3,h4,fun t hn hR K' hk=>?_⟩
    have:=hR (.mem d) (by simp);simp only [same] at this
    simp only [jg, ← this,hd,hg,cond_true]
    exact h5 t hn (fun k hk=>hR k (List.mem_cons_of_mem _ hk)) K' hk
 |undef|gone|jy|bsl|ref|dI|tup=>exact eG.false fun K h=>h
theorem wN {fz:Nat→Bool} {m:Nat→Option (Nat×List SV)}:∀{l:List SV} {s:St},s.mem=m→eG fz (fun s K=>gT s l K) s (Vb m l) (Vd m fz l)
 |[],_,_=>eG.pure
 |v::r,s,hm=>(JW hm).bind fun x ws hws=>(wN (l:=r) (by rw [Mt hws,hm])).map fun as=>x::as
theorem Rc {f:FuncId} {first captured:Array Operand} (ho:o.op= .makeFunc (.func f) first captured):Writes T C L o s (oKs captured.toList) (dK o.dst):=by
 have e:∀(u:St) K,aop T C L o u K=(bif first.isEmpty then K (u.put o.dst (.fn f (captured.toList.map u.ev))) else False):=by
  intro u K;unfold aop;rw [ho]<;>rfl
 intro K h
 rw [e] at h
 cases hf:first.isEmpty with
 |false=>simp [hf] at h
 |true=>
  simp only [hf,cond_true] at h
  refine⟨iM o.dst (.fn f (captured.toList.map s.ev)),by rwa [← aC],aT,fun u hn hR K' hk=>?_⟩
  rw [e,hf,nT hR]
  simp only [cond_true]
  rwa [aC]
theorem WE {t:Nat} {x i:Operand} (ho:o.op= .index t x i):Writes T C L o s (oK x++oK i) (dK o.dst):=by
 have e:∀(u:St) K,aop T C L o u K=(match (T t).kind,u.ev x,u.ev i with
  | .str,.data (.str b),.data (.int _ n)=>VC (0≤n∧n < b.size) (K (u.put o.dst (.data (.int .u8 ((b.data.toList.getD n.toNat 0).toNat)))))
  |_,_,_=>False):=by
  intro u K;unfold aop;rw [ho]<;>rfl
 intro K h
 rw [e] at h
 split at h
 ·rename_i b k n hT hx hi
  refine⟨iM o.dst (.data (.int .u8 ((b.data.toList.getD n.toNat 0).toNat))),by rw [← aC];exact h.k,aT,fun u hn hR K' hk=>?_⟩
  rw [e,hT,bI fun k hk=>hR k (List.mem_append_left _ hk),bI (x:=i) fun k hk=>hR k (List.mem_append_right _ hk),hx,hi]
  exact⟨h.h,by rwa [aC]⟩
 ·exact h.elim
theorem YT {E:Nat} {x:Operand} (ho:o.op= .box E x) {d:Nat} (hd:o.dst=some d):Writes T C L o s (.mem d::(oK x++sK (s.ev x))) [.mem d,.slot d]:=by
 have e:∀(u:St) K,aop T C L o u K=(match (some d:Option Nat),(u.ev x).cells with
  |some d,some cells=>bif (T E).good&&Nat.beq cells.length (T E).size&&(u.ev x).stands u&&Nat.blt d 1000000 then (let r:=bP u d cells;K (r.2.set d r.1)) else False
  |_,_=>False):=by
  intro u K;unfold aop;rw [ho,hd]<;>rfl
 intro K h
 rw [e] at h
 cases hc:(s.ev x).cells with
 |none=>simp [hc] at h
 |some cells=>
  simp only [hc] at h
  cases hb:((T E).good&&Nat.beq cells.length (T E).size&&(s.ev x).stands s&&Nat.blt d 1000000) with
  |false=>simp only [hb,cond_false] at h
  |true=>
   simp only [hb,cond_true,bP] at h
   refine⟨[.mem d (fZ (s.mem d)) cells,.slot d (.box d (fZ (s.mem d)) 0)],h,by simp [Wr.key],fun t hn hR K' hk=>?_⟩
   have hm:=hR (.mem d) (by simp);simp only [same] at hm
   rw [e,bI fun k hk=>hR k (List.mem_cons_of_mem _ (List.mem_append_left _ hk))]
   simp only [hc]
   rw [gF fun k hk=>hR k (List.mem_cons_of_mem _ (List.mem_append_right _ hk)),hb]
   simp only [cond_true,bP, ← hm]
   exact hk
def bK:Option Operand→List Key
 |some x=>oK x
 |none=>[]
theorem Hq {u:St} {n:Int} {x:Option Operand} (h:∀k∈bK x,same k s u):bound u n x=bound s n x:=by
 cases x with
 |none=>rfl
 |some x=>simp only [bound];rw [bI h]
theorem JX {u:St} {v:SV} (h:∀k∈sK v,same k s u):sliceLen u v=sliceLen s v:=by
 have hc:=uH h
 cases v with
 |data a=>cases a<;>simp only [sliceLen]<;>rw [hc]
 |_=>simp only [sliceLen];rw [hc]
theorem WG {t:Nat} {x:Operand} {lo hi:Option Operand} (ho:o.op= .slice t x lo hi none):
  Writes T C L o s (oK x++(bK lo++(bK hi++(sK (s.ev x)++eRV (s.ev x))))) (dK o.dst++eWV (OG s) (s.ev x)):=by
 have e:∀(u:St) K,aop T C L o u K=(match (T t).kind,sliceLen u (u.ev x) with
  | .slice E,some len=>(match bound u 0 lo,bound u len hi with
   |some a,some b=>VC (0≤a∧a≤b∧b≤len) (bif (T E).good then mZ u (u.ev x) fun v s1=>match v with
    | .sl l=>VC ((l.length:Int)=len∧(a=0∨∀x,l.head? =some x→x.cells.length=(T E).size)) (K (s1.put o.dst (.data (.sl (jU l a b)))))
    |_=>False else False)
   |_,_=>False)
  | .str,some len=>(match bound u 0 lo,bound u len hi,u.ev x with
   |some a,some b,.data (.str v)=>VC (0≤a∧a≤b∧b≤len) (K (u.put o.dst (.data (.str (v.extract a.toNat b.toNat)))))
   |_,_,_=>False)
  |_,_=>False):=by
  intro u K;unfold aop;rw [ho]<;>rfl
 intro K h
 rw [e] at h
 have same':∀u:St,(∀k∈oK x++(bK lo++(bK hi++(sK (s.ev x)++eRV (s.ev x)))),same k s u)→u.ev x=s.ev x∧sliceLen u (s.ev x)=sliceLen s (s.ev x)∧(∀n,bound u n lo=bound s n lo)∧(∀n,bound u n hi=bound s n hi)∧∀k∈eRV (s.ev x),same k s u:=by
  intro u hR
  simp only [List.mem_append] at hR
  exact⟨bI fun k hk=>hR k (.inl hk),JX fun k hk=>hR k (.inr (.inr (.inr (.inl hk)))),fun n=>Hq fun k hk=>hR k (.inr (.inl hk)),fun n=>Hq fun k hk=>hR k (.inr (.inr (.inl hk))),fun k hk=>hR k (.inr (.inr (.inr (.inr hk))))⟩
 cases hT:(T t).kind with
 |slice E=>
  simp only [hT] at h
  cases hl:sliceLen s (s.ev x) with
  |none=>simp [hl] at h
  |some len=>
   simp only [hl] at h
   cases hlo:bound s 0 lo with
   |none=>simp [hlo] at h
   |some a=>
    cases hhi:bound s len hi with
    |none=>simp [hlo,hhi] at h
    |some b=>
     simp only [hlo,hhi] at h
     obtain⟨hv,h⟩:=h
     cases hg:(T E).good with
     |false=>simp [hg] at h
     |true=>
      simp only [hg,cond_true] at h
      obtain⟨v,ws,h1,h2,h3,h4,h5⟩:=zQ (fz:=OG s) (v:=s.ev x) (s:=s) (Gx s) _ h
      cases v with
      |sl l=>
       obtain⟨hv2,h1⟩:=h1
       refine⟨ws++iM o.dst (.data (.sl (jU l a b))),by rw [St.aF, ← aC];exact h1,?_,fun u hn hR K' hk=>?_⟩
       ·intro w hw
        rcases List.mem_append.1 hw with hw|hw
        ·exact List.mem_append_right _ (h4 w hw)
        ·exact List.mem_append_left _ (aT w hw)
       ·obtain⟨e1,e2,e3,e4,e5⟩:=same' u hR
        rw [e,hT,e1,e2,hl]
        simp only [e3,e4,hlo,hhi,hg,cond_true]
        refine⟨hv,h5 u hn e5 _ ⟨hv2,?_⟩⟩
        rw [St.aF, ← aC] at hk;exact hk
      |_=>exact h1.elim
 |str=>
  simp only [hT] at h
  cases hl:sliceLen s (s.ev x) with
  |none=>simp [hl] at h
  |some len=>
   simp only [hl] at h
   cases hlo:bound s 0 lo with
   |none=>simp [hlo] at h
   |some a=>
    cases hhi:bound s len hi with
    |none=>simp [hlo,hhi] at h
    |some b=>
     simp only [hlo,hhi] at h
     split at h
     ·rename_i a' b' v ha hb hx
      cases ha;cases hb
      refine⟨iM o.dst (.data (.str (v.extract a.toNat b.toNat))),by rw [← aC];exact h.k,fun w hw=>List.mem_append_left _ (aT w hw),fun u hn hR K' hk=>?_⟩
      obtain⟨e1,e2,e3,e4,e5⟩:=same' u hR
      rw [e,hT,e1,e2,hl]
      simp only [e3,e4,hlo,hhi,hx]
      exact⟨h.h,by rw [aC];exact hk⟩
     ·exact h.elim
 |_=>simp [hT] at h
end
section
variable {T:Nat→Ty} {C:Nat→List AR→(RV→Prop)→Prop} {L:Nat} {o:Oper} {s:St}
inductive OJ (C:Nat→List AR→(RV→Prop)→Prop) (f:Nat) (as:List AR) (K:RV→Prop):Prop
 |mk (r:RV) (h:∀K':RV→Prop,K' r→C f as K') (k:K r)
def uJ (A:List SV) (d:Option Nat) (r:RV):List Key:=match r with
 | .eff i r' cs=>(match A[i]? with
  |some (.box b _ _)=>.mem b::(r'.toks (dn d)++RV.AB (1000*(b+1)) cs)
  |_=>[])
 | .ptr _=>(match d with|some d=>[.mem d]|none=>[])
 |r=>(match d with|some d=>r.toks (1000*(d+1))|none=>[])
theorem OL {A:List SV} {d:Option Nat} {r:RV} (h:r.wF=false):uJ A d r=(match d with|some d=>r.toks (1000*(d+1))|none=>[]):=by
 cases r<;>first|rfl|cases h
def uK (T:Nat→Ty) (C:Nat→List AR→(RV→Prop)→Prop) (L:Nat) (o:Oper) (s:St) (K:RW→St→Prop):Prop:=
 match o.op with
 | .move x| .assign x=>aop T C L o s (K (oK x,dK o.dst))
 | .pick (.tmp c) a b=>bif Nat.blt c s.n then aop T C L o s (K (.slot c::(oK a++oK b),dK o.dst)) else False
 | .alloc _=>match o.dst with
  |some d=>aop T C L o s (K ([.mem d],[.mem d,.slot d]))
  |none=>False
 | .load _ a=>aop T C L o s (K (oK a++sK (s.ev a),dK o.dst))
 | .binOp _ _ x y _=>match s.ev y with
  | .data _=>aop T C L o s (K (oK x++oK y,dK o.dst))
  |_=>False
 | .unOp _ _ x=>aop T C L o s (K (oK x,dK o.dst))
 | .convert _ _ x=>aop T C L o s (K (oK x,dK o.dst))
 | .extract x _=>aop T C L o s (K (oK x,dK o.dst))
 | .field _ x _=>aop T C L o s (K (oK x,dK o.dst))
 | .nilCheck x=>aop T C L o s (K (oK x++sK (s.ev x),dK o.dst))
 | .fieldAddr _ x _=>aop T C L o s (K (oK x++sK (s.ev x),dK o.dst))
 | .indexAddr _ x i=>aop T C L o s (K (oK x++(oK i++sK (s.ev x)),dK o.dst))
 | .build _ parts=>aop T C L o s (K (qg s.ev parts.toList,dK o.dst))
 | .buildSlice _ _ parts=>match o.dst with
  |some d=>aop T C L o s (K (.mem d::.tok d::(elR s.ev parts.toList++qg s.ev parts.toList),.mem d::.tok d::.slot d::elW s.ev parts.toList))
  |none=>False
 | .store _ a x=>match s.ev a with
  | .box d _ _=>aop T C L o s (K (oK a++(oK x++(.mem d::sK (s.ev x))),.mem d::dK o.dst))
  | .jy τ _ _ _=>aop T C L o s (K (oK a++(.tok τ::(oK x++eRV (s.ev x))),.tok τ::(dK o.dst++eRV (s.ev x))))
  |_=>False
 | .call c=>match c.callee with
  | .builtin b=>aop T C L o s (K (oKs c.args.toList++(sKs (c.args.toList.map s.ev)++dY o.dst b (c.args.toList.map s.ev)),dK o.dst++dY o.dst b (c.args.toList.map s.ev)))
  | .value (.func f)=>gT s (c.args.toList.map s.ev) fun as s1=>OJ C f as fun r=>
     pX (fun _ _ K=>K r) (c.args.toList.map s.ev) s s1 o.dst f as as (K (oKs c.args.toList++(Vb s.mem (c.args.toList.map s.ev)++uJ (c.args.toList.map s.ev) o.dst r),dK o.dst++(Vd s.mem (OG s) (c.args.toList.map s.ev)++uJ (c.args.toList.map s.ev) o.dst r)))
  |_=>False
 | .makeFunc (.func _) _ captured=>aop T C L o s (K (oKs captured.toList,dK o.dst))
 | .index _ x i=>aop T C L o s (K (oK x++oK i,dK o.dst))
 | .box _ x=>match o.dst with
  |some d=>aop T C L o s (K (.mem d::(oK x++sK (s.ev x)),[.mem d,.slot d]))
  |none=>False
 | .slice _ x lo hi none=>aop T C L o s (K (oK x++(bK lo++(bK hi++(sK (s.ev x)++eRV (s.ev x)))),dK o.dst++eWV (OG s) (s.ev x)))
 |_=>False
def DOk (T:Nat→Ty) (C:Nat→List AR→(RV→Prop)→Prop) (L:Nat) (o:Oper) (s:St) (K:RW→St→Prop):Prop:=
 ∃p ws,K p (s.app ws)∧(∀w∈ws,w.key∈p.2)∧∀t:St,t.n=s.n→(∀k∈p.1,same k s t)→∀K':St→Prop,K' (t.app ws)→aop T C L o t K'
theorem DOk.of {K:RW→St→Prop} {R W:List Key} (h:Writes T C L o s R W) (hk:aop T C L o s (K (R,W))):DOk T C L o s K:=by
 obtain⟨ws,h1,h2,h3⟩:=h _ hk
 exact⟨(R,W),ws,h1,h2,h3⟩
theorem SN {K:RW→St→Prop} (h:uK T C L o s K):DOk T C L o s K:=by
 unfold uK at h
 split at h
 ·rename_i x ho;exact .of (Va (.inl ho)) h
 ·rename_i x ho;exact .of (Va (.inr ho)) h
 ·rename_i c a b ho
  cases hc:Nat.blt c s.n with
  |false=>simp [hc] at h
  |true=>simp only [hc,cond_true] at h;exact .of (XK ho hc) h
 ·rename_i E ho
  split at h
  ·rename_i d hd;exact .of (Wz ho hd) h
  ·exact h.elim
 ·rename_i t a ho;exact .of (XL ho) h
 ·rename_i op t x y z ho
  split at h
  ·rename_i q hy;exact .of (WA ho hy) h
  ·exact h.elim
 ·rename_i op t x ho;exact .of (XM ho) h
 ·rename_i src t x ho;exact .of (TV ho) h
 ·rename_i x i ho;exact .of (TW ho) h
 ·rename_i t x f ho;exact .of (WB ho) h
 ·rename_i x ho;exact .of (Ra ho) h
 ·rename_i t x f ho;exact .of (OD ho) h
 ·rename_i t x i ho;exact .of (OE ho) h
 ·rename_i t parts ho;exact .of (WC ho) h
 ·rename_i t n parts ho
  split at h
  ·rename_i d hd;exact .of (Mw ho hd) h
  ·exact h.elim
 ·rename_i t a x ho
  split at h
  ·rename_i d g off ha;exact .of (Rb ho ha) h
  ·rename_i τ g k off ha;exact .of (OH ho ha) h
  ·exact h.elim
 ·rename_i c ho
  split at h
  ·rename_i b hb;exact .of (TY ho hb) h
  ·rename_i f hf
   ·have e:∀(u:St) K,aop T C L o u K=gT u (c.args.toList.map u.ev) fun as s1=>pX C (c.args.toList.map u.ev) u s1 o.dst f as as K:=by
     intro u K;unfold aop;rw [ho];simp only [hf]
    obtain⟨as,ws,h1,h2,h3,h4,h5⟩:=wN (s:=s) rfl (Gx s) _ h
    obtain⟨r,hr,hk⟩:=h1
    simp only [pX] at hk
    cases hq0:(mF as||uw as) with
    |false=>simp only [hq0,cond_false] at hk
    |true=>
    simp only [hq0,cond_true] at hk
    cases he:r.wF with
    |true=>
     cases r with
     |eff i r' cs=>
      simp only [yX,uJ] at hk
      split at hk
      ·rename_i b g hA
       rw [hA] at hk
       cases hb:((SV.box b g 0).stands (s.app ws)&& !mF as) with
       |false=>simp only [hb,cond_false] at hk
       |true=>
        simp only [hb,cond_true] at hk
        have eU:∀u:St,u.dJ b g (List.replicate cs.length .undef)=u.app [.mem b g (List.replicate cs.length .undef)]:=fun _=>rfl
        rw [eU] at hk
        obtain⟨v,us,g1,g2,g3,g4⟩:=Mv (c.args.toList.map s.ev) r' ((s.app ws).app [.mem b g (List.replicate cs.length .undef)]) (dn o.dst)
        simp only [g1] at hk
        obtain⟨vs,us2,f1,f2,f3,f4⟩:=AJ (c.args.toList.map s.ev) cs (((s.app ws).app [.mem b g (List.replicate cs.length .undef)]).app us) (1000*(b+1))
        simp only [f1] at hk
        refine⟨_,ws++([.mem b g (List.replicate cs.length .undef)]++(us++(us2++(.mem b g vs::iM o.dst v)))),by rw [St.aF,St.aF,St.aF,St.aF];simp only [St.app] at hk ⊢;rw [← aC];exact hk,?_,fun t hn hR K' hk'=>?_⟩
        ·intro w hw
         simp only [List.mem_append]
         rcases List.mem_append.1 hw with hw|hw
         ·exact .inr (.inl (h4 w hw))
         rcases List.mem_append.1 hw with hw|hw
         ·simp only [List.mem_singleton] at hw;subst hw;exact .inr (.inr (List.mem_cons_self ..))
         rcases List.mem_append.1 hw with hw|hw
         ·exact .inr (.inr (List.mem_cons_of_mem _ (List.mem_append_left _ (g3 w hw))))
         rcases List.mem_append.1 hw with hw|hw
         ·exact .inr (.inr (List.mem_cons_of_mem _ (List.mem_append_right _ (f3 w hw))))
         rcases List.mem_cons.1 hw with rfl|hw
         ·exact .inr (.inr (List.mem_cons_self ..))
         ·exact .inl (aT w hw)
        ·rw [e,nT fun k hk=>hR k (List.mem_append_left _ hk)]
         have hR2:∀k∈.mem b::(r'.toks (dn o.dst)++RV.AB (1000*(b+1)) cs),same k s t:=fun k hk=>hR k (List.mem_append_right _ (List.mem_append_right _ hk))
         refine h5 t hn (fun k hk=>hR k (by simp only [List.mem_append] at hk ⊢;exact .inr (.inl hk))) _ ?_
         simp only [pX,hq0,cond_true]
         refine hr _ ?_
         simp only [yX,hA]
         have hst:(SV.box b g 0).stands (t.app ws)=(SV.box b g 0).stands (s.app ws):=gF fun k hk=>gW hn.symm (hR2 k (by simp [sK] at hk;simp [hk]))
         rw [hst,hb]
         simp only [cond_true]
         rw [eU]
         rw [g4 ((t.app ws).app [.mem b g (List.replicate cs.length .undef)]) (by simp [St.sS,hn]) fun k hk=>gW (by simp [St.sS,hn]) (gW hn.symm (hR2 k (List.mem_cons_of_mem _ (List.mem_append_left _ hk))))]
         simp only
         rw [f4 (((t.app ws).app [.mem b g (List.replicate cs.length .undef)]).app us) (by simp [St.sS,hn]) fun k hk=>gW (by simp [St.sS,hn]) (gW (by simp [St.sS,hn]) (gW hn.symm (hR2 k (List.mem_cons_of_mem _ (List.mem_append_right _ hk)))))]
         rw [St.aF,St.aF,St.aF,St.aF] at hk';simp only [St.app] at hk' ⊢;rw [← aC] at hk';exact hk'
      ·exact hk.elim
     |ptr cs=>
      simp only [yX,uJ] at hk
      cases hd:o.dst with
      |none=>simp only [hd] at hk
      |some d=>
       simp only [hd] at hk
       cases hb:(mF as&&Nat.blt d 1000000) with
       |false=>simp only [hb,cond_false] at hk
       |true=>
        simp only [hb,cond_true] at hk
        have eU:∀u:St,(bP u d (cs.map .data)).2.set d (bP u d (cs.map .data)).1=u.app [.mem d (fZ (u.mem d)) (cs.map .data),.slot d (.box d (fZ (u.mem d)) 0)]:=fun u=>by
         simp only [bP,St.app,St.wr]
        rw [eU] at hk
        refine⟨_,ws++[.mem d (fZ ((s.app ws).mem d)) (cs.map .data),.slot d (.box d (fZ ((s.app ws).mem d)) 0)],by rw [St.aF];exact hk,?_,fun t hn hR K' hk'=>?_⟩
        ·intro w hw
         simp only [List.mem_append]
         rcases List.mem_append.1 hw with hw|hw
         ·exact .inr (.inl (h4 w hw))
         ·simp only [List.mem_cons,List.not_mem_nil,or_false] at hw
          rcases hw with rfl|rfl
          ·exact .inr (.inr (by simp [Wr.key]))
          ·exact .inl (by simp [Wr.key,dK])
        ·rw [e,nT fun k hk=>hR k (List.mem_append_left _ hk)]
         refine h5 t hn (fun k hk=>hR k (by simp only [List.mem_append] at hk ⊢;exact .inr (.inl hk))) _ ?_
         simp only [pX,hq0,cond_true]
         refine hr _ ?_
         simp only [yX,hd,hb,cond_true]
         rw [eU]
         have hst:(t.app ws).mem d=(s.app ws).mem d:=(gW (k:=.mem d) hn.symm (hR _ (List.mem_append_right _ (List.mem_append_right _ (by simp))))).symm
         rw [hst]
         rw [St.aF] at hk';exact hk'
     |_=>cases he
    |false=>
    rw [ni he,OL he] at hk
    cases hnb:mF as with
    |false=>simp only [hnb,cond_false] at hk
    |true=>
    simp only [hnb,cond_true] at hk
    cases hd:o.dst with
    |none=>
     simp only [hd,List.append_nil,dK,List.nil_append] at hk
     refine⟨_,ws,hk,h4,fun t hn hR K' hk'=>?_⟩
     rw [e,nT fun k hk=>hR k (List.mem_append_left _ hk)]
     refine h5 t hn (fun k hk=>hR k (List.mem_append_right _ hk)) _ ?_
     simp only [pX,hd,hq0,cond_true]
     refine hr _ ?_
     rw [ni he,hnb]
     exact hk'
    |some d=>
     simp only [hd] at hk
     cases hq:r.quiet with
     |some v=>
      simp only [hq] at hk
      refine⟨_,[.slot d v],hk,by simp [Wr.key,dK],fun t hn hR K' hk'=>?_⟩
      rw [e,nT fun k hk=>hR k (List.mem_append_left _ hk)]
      refine h5 t hn (fun k hk=>hR k (by simp only [List.mem_append] at hk ⊢;exact .inr (.inl hk))) _ ?_
      simp only [pX,hd,hq0,cond_true]
      refine hr _ ?_
      rw [ni he,hnb]
      simp only [hq,cond_true]
      exact hk'
     |none=>
     simp only [hq] at hk
     obtain⟨v,us,g1,g2,g3,g4⟩:=Mv (c.args.toList.map s.ev) r (s.app ws) (1000*(d+1))
     simp only [g1] at hk
     refine⟨(oKs c.args.toList++(Vb s.mem (c.args.toList.map s.ev)++r.toks (1000*(d+1))),dK (some d)++(Vd s.mem (OG s) (c.args.toList.map s.ev)++r.toks (1000*(d+1)))),
      ws++(us++[.slot d v]),?_,?_,fun t hn hR K' hk'=>?_⟩
     ·rw [St.aF,St.aF];exact hk
     ·intro w hw
      simp only [List.mem_append]
      rcases List.mem_append.1 hw with hw|hw
      ·exact .inr (.inl (h4 w hw))
      ·rcases List.mem_append.1 hw with hw|hw
       ·exact .inr (.inr (g3 w hw))
       ·simp at hw;subst hw;simp [Wr.key,dK]
     ·rw [e,nT fun k hk=>hR k (List.mem_append_left _ hk)]
      refine h5 t hn (fun k hk=>hR k (by simp only [List.mem_append] at hk ⊢;exact .inr (.inl hk))) _ ?_
      simp only [pX,hd,hq0,cond_true]
      refine hr _ ?_
      rw [ni he,hnb]
      simp only [hq,cond_true]
      rw [g4 (t.app ws) (by simp [St.sS,hn]) fun k hk=>gW hn.symm (hR k (by simp only [List.mem_append];exact .inr (.inr hk)))]
      rw [St.aF,St.aF] at hk';exact hk'
  ·exact h.elim
 ·rename_i f first captured ho;exact .of (Rc ho) h
 ·rename_i t x i ho;exact .of (WE ho) h
 ·rename_i E x ho
  split at h
  ·rename_i d hd;exact .of (YT ho hd) h
  ·exact h.elim
 ·rename_i t x lo hi ho;exact .of (WG ho) h
 ·exact h.elim
end
section
variable (T:Nat→Ty) (C:Nat→List AR→(RV→Prop)→Prop) (L:Nat)
def qh:List Key→(List Key→Prop)→Prop
 |[],K=>K []
 | .slot i::r,K=>qh r fun l=>K (.slot i::l)
 | .mem i::r,K=>qh r fun l=>K (.mem i::l)
 | .tok i::r,K=>qh r fun l=>K (.tok i::l)
theorem sW:∀(l:List Key) (K:List Key→Prop),qh l K=K l
 |[],_=>rfl
 | .slot i::r,K=>by simp only [qh];rw [sW r]
 | .mem i::r,K=>by simp only [qh];rw [sW r]
 | .tok i::r,K=>by simp only [qh];rw [sW r]
def qj (ops:List Oper):List Oper→St→List RW→(List RW→St→Prop)→Prop
 |[],s,fp,K=>K fp s
 |o::r,s,fp,K=>match o.guard with
  |none=>uK T C L o s fun p s1=>qh p.1 fun R=>qh p.2 fun W=>qj ops r s1 (fp++[(R,W)]) K
  |some (g,want)=>match (match ops[g]? with|some og=>og.dst|none=>none) with
   |some t=>(match s.get t with
    | .data (.bool b)=>bif Nat.blt t s.n then Br b fun b=>bif (b == want) then uK T C L o (s.set t (.data (.bool b))) (fun p s1=>qh p.1 fun R=>qh p.2 fun W=>qj ops r s1 (fp++[(.slot t::R,W)]) K)
      else qj ops r ((s.set t (.data (.bool b))).put o.dst .gone) (fp++[([.slot t],dK o.dst)]) K else False
    | .gone=>qj ops r (s.put o.dst .gone) (fp++[([.slot t],dK o.dst)]) K
    |_=>False)
   |none=>False
def yj:List Oper→List Nat
 |[]=>[]
 |o::r=>match o.op,o.dst with
  | .call _,some d=>d::yj r
  |_,_=>yj r
def know (s:St):List Nat→Prop→Prop
 |[],X=>X
 |d::r,X=>match s.get d with
  | .data a=>a.wf L→know s r X
  |_=>know s r X
inductive AX where
 |normal|ret|exit (id:Nat)
def AX.then (next:St→Prop) (Q:AX→St→Prop):AX→St→Prop
 | .normal,s=>next s
 |e,s=>Q e s
def AX.inBlock (id:Nat) (Q:AX→St→Prop):AX→St→Prop
 | .exit j,s=>bif Nat.beq j id then Q .normal s else Q (.exit j) s
 |e,s=>Q e s
def AL (x:Nat):List Nat→Bool
 |[]=>false
 |y::r=>Nat.beq x y||AL x r
def iG:List (Nat×Nat)→Nat→Nat
 |[],τ=>τ
 |(σ,σ')::r,τ=>bif Nat.beq σ τ then σ' else iG r τ
def MB (s t:St) (r:List (Nat×Nat)) (im:List Nat) (v v':SV):Prop:=
 match v' with
 | .undef=>True
 | .data a=>(match v with
  | .data b=>b=a
  | .aj=>a= .sl []
  | .fr l=>AV.sl l=a
  | .own τ g=>(match s.tok τ with
   |some tk=>bif Nat.beq tk.gen g&&(tk.frz|| !AL τ im) then AV.sl tk.l=a else False
   |_=>False)
  |_=>False)
 | .aj=>v= .aj
 | .fr l=>(match v with
  | .fr m=>m=l
  | .aj=>l= []
  | .own τ g=>(match s.tok τ with
   |some tk=>bif Nat.beq tk.gen g&&(tk.frz|| !AL τ im) then tk.l=l else False
   |_=>False)
  |_=>False)
 | .own τ 0=>(match v,t.tok τ with
  | .own τ' g,some _=>(match s.tok τ' with
   |some tk=>bif Nat.beq τ' (iG r τ)&&Nat.beq tk.gen g then True else False
   |none=>False)
  | .aj,some _=>(match s.tok (iG r τ) with
   |none=>True
   |some _=>False)
  |_,_=>False)
 | .box d 0 off=>(match v,t.mem d with
  | .box d' g off',some _=>(match s.mem d with
   |some (g',_)=>bif Nat.beq d d'&&Nat.beq off off'&&Nat.beq g' g then True else False
   |none=>False)
  |_,_=>False)
 | .bsl d 0 n=>(match v,t.mem d with
  | .bsl d' g n',some _=>(match s.mem d with
   |some (g',_)=>bif Nat.beq d d'&&Nat.beq n n'&&Nat.beq g' g then True else False
   |none=>False)
  |_,_=>False)
 | .ref a=>v= .ref a
 | .argv i j a=>v= .argv i j a
 | .old a=>v= .old a
 | .fnr f c=>v= .fnr f c
 |_=>False
def Rf (s t:St) (r:List (Nat×Nat)) (im:List Nat):List SV→List SV→Prop
 |[],[]=>True
 |v::q,v'::q'=>MB s t r im v v'∧Rf s t r im q q'
 |_,_=>False
def OM (s t:St) (r:List (Nat×Nat)) (im:List Nat) (v v':SV):Prop:=
 match v' with
 | .iF l'=>(match v with| .iF l=>Rf s t r im l l'|_=>False)
 |v'=>MB s t r im v v'
def SQ (s t:St) (r:List (Nat×Nat)) (im:List Nat):List SV→List SV→Prop
 |[],[]=>True
 |v::q,v'::q'=>OM s t r im v v'∧SQ s t r im q q'
 |_,_=>False
def yt (s t:St) (r:List (Nat×Nat)) (im:List Nat):List (Nat×SV)→Prop
 |[]=>True
 |(i,v')::q=>OM s t r im (s.get i) v'∧yt s t r im q
def AO (s t:St) (r:List (Nat×Nat)) (im:List Nat):List (Nat×List SV)→Prop
 |[]=>True
 |(d,cs')::q=>(match s.mem d with|some (_,cs)=>SQ s t r im cs cs'|none=>False)∧AO s t r im q
def AP (s:St) (r:List (Nat×Nat)):List (Nat×Nat×List AV×Nat)→Prop
 |[]=>True
 |(τ,E,l,k)::q=>(match s.tok (iG r τ) with
  |some tk=>bif Nat.beq tk.E E&&(bif Nat.beq k 2 then tk.lin else (!tk.frz&&(Nat.beq k 0||tk.lin))) then tk.l=l else False
  |none=>bif (T E).good then l= [] else False)∧AP s r q
structure Fr where
 slots:List (Nat×SV)
 kX:List (Nat×List SV)
 toks:List (Nat×Nat×List AV×Nat)
def YU (v v':SV) (acc:List (Nat×Nat)):List (Nat×Nat):=
 match v',v with
 | .own τ _,.own τ' _=>(τ,τ')::acc
 |_,_=>acc
def YV:List SV→List SV→List (Nat×Nat)→List (Nat×Nat)
 |v::q,v'::q',acc=>YV q q' (YU v v' acc)
 |_,_,acc=>acc
def Xq (v v':SV) (acc:List (Nat×Nat)):List (Nat×Nat):=
 match v',v with
 | .iF l',.iF l=>YV l l' acc
 |v',v=>YU v v' acc
def Xr:List SV→List SV→List (Nat×Nat)→List (Nat×Nat)
 |v::q,v'::q',acc=>Xr q q' (Xq v v' acc)
 |_,_,acc=>acc
def XR (s:St):List (Nat×SV)→List (Nat×Nat)→List (Nat×Nat)
 |[],acc=>acc
 |(i,v')::q,acc=>XR s q (Xq (s.get i) v' acc)
def XT (s:St):List (Nat×List SV)→List (Nat×Nat)→List (Nat×Nat)
 |[],acc=>acc
 |(d,cs')::q,acc=>XT s q (match s.mem d with|some (_,cs)=>Xr cs cs' acc|none=>acc)
def MC:List (Nat×Nat)→(List (Nat×Nat)→Prop)→Prop
 |[],K=>K []
 |(a,b)::r,K=>MC r fun l=>K ((a,b)::l)
theorem KS:∀(l:List (Nat×Nat)) (K:List (Nat×Nat)→Prop),MC l K=K l
 |[],_=>rfl
 |(a,b)::r,K=>by simp only [MC];rw [KS r]
def imR (r:List (Nat×Nat)):List (Nat×Nat×List AV×Nat)→List Nat
 |[]=>[]
 |(τ,_)::q=>iG r τ::imR r q
def qm:List Nat→Bool
 |[]=>true
 |x::r=> !AL x r&&qm r
def look {α:Type}:List (Nat×α)→Nat→Option α
 |[],_=>none
 |(j,v)::r,i=>bif Nat.beq i j then some v else look r i
def Fr.st (f:Fr) (n:Nat):St where
 n:=n
 get i:=match look f.slots i with|some v=>v|none=>.undef
 mem d:=match look f.kX d with|some v=>some (0,v)|none=>none
 tok τ:=match look f.toks τ with|some (E,l,k)=>some ⟨0,Nat.beq k 2,E,l, !Nat.beq k 0⟩|none=>none
def Weak (s:St) (f:Fr):Prop:=MC (XT s f.kX (XR s f.slots [])) fun r=>qm (imR r f.toks)=true∧yt s (f.st s.n) r (imR r f.toks) f.slots∧AO s (f.st s.n) r (imR r f.toks) f.kX∧AP T s r f.toks
inductive SS (body:(AX→St→Prop)→St→Prop) (n:Nat) (Q:AX→St→Prop) (s:St):Prop
 |mk (ι:Type) (inv:ι→Prop) (fr:ι→Fr) (μ:ι→Nat) (x₀:ι) (i₀:inv x₀) (h₀:Weak T s (fr x₀))
  (hr:∀x,inv x→body (AX.then (fun s'=>∃x',inv x'∧s'.n=n∧Weak T s' (fr x')∧μ x' < μ x) Q) ((fr x).st n))
def awp:Code→(AX→St→Prop)→St→Prop
 | .skip,Q,s| .label _,Q,s=>Q .normal s
 | .ret,Q,s=>Q .ret s
 | .exit id,Q,s=>Q (.exit id) s
 | .seq a b,Q,s=>awp a (AX.then (awp b Q) Q) s
 | .block id b,Q,s=>awp b (AX.inBlock id Q) s
 | .cond (.tmp c) a b,Q,s=>match s.get c with
  | .data (.bool t)=>Br t fun t=>bif t then awp a Q (s.set c (.data (.bool true))) else awp b Q (s.set c (.data (.bool false)))
  |_=>False
 | .cond (.const (.bool t)) a b,Q,s=>bif t then awp a Q s else awp b Q s
 | .loop b,Q,s=>SS T (awp b) s.n Q s
 | .region _ ops false,Q,s=>FW T C L ops.toList ops.toList s (Q .normal)
 | .region _ ops true,Q,s=>qj T C L ops.toList ops.toList s [] fun fp s1=>bif Ay ops.toList fp then know L s1 (yj ops.toList) (Q .normal s1) else False
 |_,_,_=>False
end
def qo (i:Nat):Nat→Nat→List SV→Bool
 |_,0,[]=>true
 |off,n+1,.argv i' j _::r=>Nat.beq i i'&&Nat.beq off j&&qo i (off+1) n r
 |_,_,_=>false
section
variable (T:Nat→Ty)
mutual
def zS:RV→St→SV→List (Nat×Nat)→(St→List (Nat×Nat)→Prop)→Prop
 | .d b,s,v,acc,K=>mZ s v fun a s1=>VC (a=b) (K s1 acc)
 | .own E l,s,v,acc,K=>(match v with
  | .own τ g=>(match s.tok τ with
   |some t=>bif Nat.beq t.gen g&& !t.frz&&Nat.beq t.E E then VC (t.l=l) (K s ((τ,g)::acc)) else False
   |none=>False)
  | .aj=>bif (T E).good then VC (l= []) (K s acc) else False
  |_=>False)
 | .lin E l,s,v,acc,K=>(match v with
  | .own τ g=>(match s.tok τ with
   |some t=>bif Nat.beq t.gen g&& !t.frz&&Nat.beq t.E E&&(T E).flat then VC (t.l=l) (K s ((τ,g)::acc)) else False
   |none=>False)
  | .aj=>bif (T E).good then VC (l= []) (K s acc) else False
  |_=>False)
 | .fr l,s,v,acc,K=>(match v with
  | .fr m=>VC (m=l) (K s acc)
  | .aj=>VC (l= []) (K s acc)
  | .own τ g=>mZ s (.own τ g) fun a s1=>VC (a= .sl l) (K s1 acc)
  |_=>False)
 | .aj,s,v,acc,K=>(match v with| .aj=>K s acc|_=>False)
 | .arg i off n,s,v,acc,K=>(match v with| .iF vs=>bif Nat.blt 0 n&&qo i off n vs then K s acc else False|_=>False)
 | .junk,s,_,acc,K=>K s acc
 | .eff _ _ _,_,_,_,_=>False
 | .ptr _,_,_,_,_=>False
 | .agg rs,s,v,acc,K=>(match v with| .iF vs=>Hr rs s vs acc K|_=>False)
 | .tup rs,s,v,acc,K=>(match v with| .tup vs=>Hr rs s vs acc K|_=>False)
termination_by structural r=>r
def Hr:List RV→St→List SV→List (Nat×Nat)→(St→List (Nat×Nat)→Prop)→Prop
 |[],s,vs,acc,K=>(match vs with|[]=>K s acc|_=>False)
 |r::rs,s,vs,acc,K=>(match vs with|v::vs=>zS r s v acc fun s1 XU=>Hr rs s1 vs XU K|[]=>False)
termination_by structural rs=>rs
end
end
mutual
def RV.ME:RV→Bool
 | .lin _ _=>true
 | .agg l=>RV.MF l
 | .tup l=>RV.MF l
 |_=>false
termination_by structural r=>r
def RV.MF:List RV→Bool
 |[]=>false
 |r::rs=>RV.ME r||RV.MF rs
termination_by structural rs=>rs
end
section
variable (T:Nat→Ty)
mutual
def zT:RV→St→SV→List Nat→(List Nat→Prop)→Prop
 | .d a,_,v,acc,K=>(match v with| .data b=>bif b.flat then VC (b=a) (K acc) else False|_=>False)
 | .lin E l,s,v,acc,K=>(match v with
  | .own τ g=>(match s.tok τ with
   |some t=>bif Nat.beq t.gen g&&t.lin&&Nat.beq t.E E then VC (t.l=l) (K (τ::acc)) else False
   |none=>False)
  | .aj=>bif (T E).good then VC (l= []) (K acc) else False
  |_=>False)
 | .junk,_,_,acc,K=>K acc
 | .agg rs,s,v,acc,K=>(match v with| .iF vs=>KT rs s vs acc K|_=>False)
 | .tup rs,s,v,acc,K=>(match v with| .tup vs=>KT rs s vs acc K|_=>False)
 |_,_,_,_,_=>False
termination_by structural r=>r
def KT:List RV→St→List SV→List Nat→(List Nat→Prop)→Prop
 |[],_,vs,acc,K=>(match vs with|[]=>K acc|_=>False)
 |r::rs,s,vs,acc,K=>(match vs with|v::vs=>zT r s v acc fun XU=>KT rs s vs XU K|[]=>False)
termination_by structural rs=>rs
end
end
def AQ (s:St):List (Nat×Nat)→Bool
 |[]=>true
 |(τ,g)::r=>(match s.tok τ with|some t=>Nat.beq t.gen g&& !t.frz|none=>false)&&r.all (fun p=> !Nat.beq p.1 τ)&&AQ s r
section
variable (T:Nat→Ty)
def Ve (s:St):List ResultVar→(List SV→Prop)→Prop
 |[],K=>K []
 | .tmp t::r,K=>Ve s r fun vs=>K (s.get t::vs)
 | .cell a t::r,K=>(match s.get a with
  | .box d g off=>(match s.mem d with
   |some (g',cells)=>bif Nat.beq g' g then jT (T t) cells off fun v=>Ve s r fun vs=>K (v::vs) else False
   |none=>False)
  |_=>False)
def YW:List SV→SV
 |[v]=>v
 |vs=>.tup vs
def WH (r:RV) (s:St) (v:SV):Prop:=
 match r with
 | .eff i r' cs=>(match s.mem (1000000+i) with
  |some (_,cells)=>Hr T (r'::cs) s (v::cells) [] fun s1 acc=>VC (AQ s1 acc=true) True
  |none=>False)
 | .ptr cs=>(match v with
  | .box d g 0=>(match s.mem d with
   |some (g',cells)=>bif Nat.beq g' g then mG s cells fun as _=>VC (as=cs) True else False
   |none=>False)
  |_=>False)
 |r=>bif r.ME then zT T r s v [] fun acc=>VC (qm acc=true) True else zS T r s v [] fun s1 acc=>VC (AQ s1 acc=true) True
theorem Vf {r:RV} {s:St} {v:SV} (h:r.wF=false):WH T r s v=(bif r.ME then zT T r s v [] fun acc=>VC (qm acc=true) True else zS T r s v [] fun s1 acc=>VC (AQ s1 acc=true) True):=by
 cases r<;>first|rfl|cases h
def AU (results:List ResultVar) (r:RV):AX→St→Prop
 | .exit _,_=>False
 |_,s=>Ve T s results fun vs=>WH T r s (YW vs)
end
def bX:Nat→List AR→List (Nat×SV)
 |_,[]=>[]
 |i,.d a::r=>(i,.data a)::bX (i+1) r
 |i,.ref a::r=>(i,.ref a)::bX (i+1) r
 |i,.old a::r=>(i,.old a)::bX (i+1) r
 |i,.fn f caps::r=>(i,.fnr f caps)::bX (i+1) r
 |i,.bx _::r=>(i,.box (1000000+i) 0 0)::bX (i+1) r
def dW:Nat→List AR→List (Nat×List SV)
 |_,[]=>[]
 |i,.bx cells::_=>[(1000000+i,cells)]
 |i,_::r=>dW (i+1) r
def SX:List AR→Bool
 |[]=>true
 | .bx _::r=>mF r
 |_::r=>SX r
def wO (i:Nat):Nat→List AV→List SV
 |_,[]=>[]
 |j,a::r=>.argv i j a::wO i (j+1) r
def iH:Nat→List AR→List (Nat×SV)
 |_,[]=>[]
 |i,.d a::r=>(i,match a with| .agg l=>.iF (wO i 0 l)|a=>.data a)::iH (i+1) r
 |i,.ref a::r=>(i,.ref a)::iH (i+1) r
 |i,.old a::r=>(i,.old a)::iH (i+1) r
 |i,.fn f caps::r=>(i,.fnr f caps)::iH (i+1) r
 |i,.bx _::r=>(i,.box (1000000+i) 0 0)::iH (i+1) r
def entry (n:Nat) (args:List AR):St:=(Fr.mk (bX 0 args) (dW 0 args) []).st n
end Go.Proofs.YtjfnojijdggfhaaGreat.Abs
namespace Go.Proofs.YtjfnojijdggfhaaGreat.Abs
abbrev i64 (n:Int):AV:=.int .i64 n
abbrev ints (l:List Int):AV:=.sl (l.map i64)
structure Step where
 (at' cap:Int)
structure Mode where
 dur:Int
 (use con:List Int)
structure aK where
 name:ByteArray
 fam:Int
 modes:List Mode
structure Link where
 (src dst:Int)
 MG:Bool
 lag:Int
structure iy where
 steps:List Step
 setup:List (List Int)
structure Proj where
 dead:Int
 acts:List aK
 links:List Link
 bS:List iy
 bD:List Int
structure aM where
 (starts modes:List Int)
structure Rul where
 (kind a b c:Int)
structure Lit where
 (kind act val:Int)
structure Dom where
 (lo hi:List Int)
 modes:List (List Int)
structure Infer where
 lit:Lit
 rule:Rul
 clause:List Lit
structure Lin where
 kind:Int
 rule:Rul
 clause:List Lit
abbrev Step.av (x:Step):AV:=.agg [i64 x.at',i64 x.cap]
abbrev Mode.av (x:Mode):AV:=.agg [i64 x.dur,ints x.use,ints x.con]
abbrev aK.av (x:aK):AV:=.agg [.str x.name,i64 x.fam,.sl (x.modes.map Mode.av)]
abbrev Link.av (x:Link):AV:=.agg [i64 x.src,i64 x.dst,.bool x.MG,i64 x.lag]
abbrev iy.av (x:iy):AV:=.agg [.sl (x.steps.map Step.av),.sl (x.setup.map ints)]
abbrev Proj.av (x:Proj):AV:=.agg [i64 x.dead,.sl (x.acts.map aK.av),.sl (x.links.map Link.av),.sl (x.bS.map iy.av),ints x.bD]
abbrev aM.av (x:aM):AV:=.agg [ints x.starts,ints x.modes]
abbrev Rul.av (x:Rul):AV:=.agg [i64 x.kind,i64 x.a,i64 x.b,i64 x.c]
abbrev Lit.av (x:Lit):AV:=.agg [i64 x.kind,i64 x.act,i64 x.val]
abbrev Dom.av (x:Dom):AV:=.agg [ints x.lo,ints x.hi,.sl (x.modes.map ints)]
abbrev lits (l:List Lit):AV:=.sl (l.map Lit.av)
abbrev Infer.av (x:Infer):AV:=.agg [i64 x.lit.kind,i64 x.lit.act,i64 x.lit.val,i64 x.rule.kind,i64 x.rule.a,i64 x.rule.b,i64 x.rule.c,lits x.clause]
abbrev Lin.av (x:Lin):AV:=.agg [i64 x.kind,i64 x.rule.kind,i64 x.rule.a,i64 x.rule.b,i64 x.rule.c,lits x.clause]
end Go.Proofs.YtjfnojijdggfhaaGreat.Abs
