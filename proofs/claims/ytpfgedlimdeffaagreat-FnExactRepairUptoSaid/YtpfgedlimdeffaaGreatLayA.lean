/- An abstract layer over the model's code: slices as lists, structs as lists of cells; the predicate transformer 'awp'. -/
import Derived.WalkKit
set_option linter.all false
namespace Go.Proofs.YtpfgedlimdeffaaGreat.Abs
inductive AV where
 |bool (b:Bool)
 |int (k:IntKind) (n:Int)
 |str (s:ByteArray)
 |sl (l:List AV)
 |agg (l:List AV)
 |any
 deriving Inhabited
mutual
def AV.md (m:Bool):AV→Bool
 | .sl l=>AV.mds m l
 | .agg l=>AV.mds m l
 | .any=>m
 |_=> !m
def AV.mds (m:Bool):List AV→Bool
 |[]=>true
 |x::xs=>AV.md m x&&AV.mds m xs
end
mutual
def AV.wf (L:Nat):AV→Prop
 | .sl l=>l.length≤L∧AV.wfs L l
 | .agg l=>AV.wfs L l
 |_=>True
def AV.wfs (L:Nat):List AV→Prop
 |[]=>True
 |x::xs=>AV.wf L x∧AV.wfs L xs
end
mutual
def AV.flat:AV→Bool
 | .sl _=>false
 | .agg l=>AV.qN l
 |_=>true
def AV.qN:List AV→Bool
 |[]=>true
 |x::r=>AV.flat x&&AV.qN r
end
def AV.cells:AV→List AV
 | .agg l=>l
 |x=>[x]
def AV.mdc (m:Bool):AV→Bool
 | .sl l=>AV.mds m l
 | .agg l=>AV.mds m l
 |_=>true
def AV.mdv (m:Bool):AV→Bool
 | .agg l=>l.all (AV.mdc m)
 |x=>x.mdc m
inductive ZC where
 |bool|int (k:IntKind)|str|aj
 deriving Inhabited,DecidableEq
def ZC.av:ZC→AV
 | .bool=>.bool false
 | .int k=>.int k 0
 | .str=>.str ⟨#[]⟩
 | .aj=>.sl []
inductive TK where
 |bool|int (k:IntKind)|str
 |slice (E:Nat)
 |struct (fs:List (Nat×Nat))
 |fn
 |other
 deriving Inhabited,DecidableEq
structure Ty where
 kind:TK
 size:Nat
 bytes:Nat
 zero:List ZC
 eq:Bool:=false
 deriving Inhabited,DecidableEq
def Ty.good (t:Ty):Bool:=match t.kind with| .other=>false|_=>true
def Ty.agg (t:Ty):Bool:=match t.kind with| .struct _=>true|_=>false
def ZC.fit:ZC→AV→Bool
 | .aj,.sl _=>true
 | .aj,_=>false
 |_,.sl _=>false
 |_,.agg _=>false
 |_,_=>true
def bF:List ZC→List AV→Bool
 |[],[]=>true
 |z::zs,x::xs=>z.fit x&&bF zs xs
 |_,_=>false
def BU:List ZC→Bool
 |[]=>true
 | .aj::_=>false
 |_::r=>BU r
def Ty.flat (t:Ty):Bool:=BU t.zero
def ZC.beq:ZC→ZC→Bool
 | .bool,.bool=>true
 | .int _,.int _=>true
 | .str,.str=>true
 | .aj,.aj=>true
 |_,_=>false
def Oh:List ZC→List ZC→Bool
 |[],[]=>true
 |a::r,b::t=>a.beq b&&Oh r t
 |_,_=>false
def uX (E t:Ty) (off:Nat):Bool:=Oh ((E.zero.drop off).take t.zero.length) t.zero
inductive SV where
 |undef
 |gone
 |data (a:AV)
 |aj
 |fr (l:List AV)
 |own (τ g:Nat)
 |iW (τ g k off:Nat)
 |box (d g off:Nat)
 |bsl (d g n:Nat)
 |ref (a:AV)
 |old (a:AV)
 |bQ (a:AV)
 |fn (f:Nat) (caps:List SV)
 |fnr (f:Nat) (caps:List AV)
 |gW (l:List SV)
 |tup (l:List SV)
 |argv (i j:Nat) (a:AV)
 deriving Inhabited
structure Tok where
 gen:Nat
 frz:Bool
 E:Nat
 l:List AV
 lin:Bool
structure St where
 n:Nat
 get:Nat→SV
 mem:Nat→Option (Nat×List SV)
 tok:Nat→Option Tok
def St.set (s:St) (d:Nat) (v:SV):St:=
 { s with get:=fun i=>bif Nat.beq i d then (bif Nat.blt d s.n then v else .undef) else s.get i }
def St.put (s:St) (d:Option Nat) (v:SV):St:=match d with|some d=>s.set d v|none=>s
def St.bU (s:St) (d g:Nat) (cells:List SV):St:=
 { s with mem:=fun i=>bif Nat.beq i d then some (g,cells) else s.mem i }
def St.aS (s:St) (d:Nat) (t:Tok):St:=
 { s with tok:=fun i=>bif Nat.beq i d then some t else s.tok i }
structure VC (p:Prop) (K:Prop):Prop where
 h:p
 k:K
structure Br (b:Bool) (X:Bool→Prop):Prop where
 t:b=true→X true
 f:b=false→X false
theorem Br.tt {X:Bool→Prop} (h:X true):Br true X:=⟨fun _=>h,nofun⟩
theorem Br.ff {X:Bool→Prop} (h:X false):Br false X:=⟨nofun,fun _=>h⟩
theorem Br.yes {b:Bool} {X:Bool→Prop} (hb:b=true) (h:X true):Br b X:=⟨fun _=>h,fun e=>by simp [hb] at e⟩
theorem Br.no {b:Bool} {X:Bool→Prop} (hb:b=false) (h:X false):Br b X:=⟨fun e=>by simp [hb] at e,fun _=>h⟩
structure Arith (k:IntKind) (r:Int) (K:Int→Prop):Prop where
 h:K (k.wrap r)
inductive Idx (l:List AV) (i:Int) (K:Nat→AV→Prop):Prop
 |mk (j:Nat) (x:AV) (hi:i=j) (hx:l[j]? =some x) (k:K j x)
structure Uy (l:List AV) (X:Bool→Prop):Prop where
 t:l= []→X true
 f:X false
def cv:Value→SV
 | .bool b=>.data (.bool b)
 | .int k n=>.data (.int k n)
 | .string s=>.data (.str s)
 | .slice none 0 0=>.aj
 |_=>.undef
def St.ev (s:St):Operand→SV
 | .tmp t=>s.get t
 | .const v=>cv v
 | .func f=>.fn f []
 | .global _=>.undef
def qO:List SV→Option (List AV)
 |[]=>some []
 | .data a::r=>match qO r with|some l=>some (a::l)|none=>none
 |_=>none
def pK:List SV→Option (List AV)
 |[]=>some []
 | .data (.bool b)::r=>match pK r with|some l=>some (.bool b::l)|none=>none
 | .data (.int k n)::r=>match pK r with|some l=>some (.int k n::l)|none=>none
 | .data (.str b)::r=>match pK r with|some l=>some (.str b::l)|none=>none
 | .data .any::r=>match pK r with|some l=>some (.any::l)|none=>none
 | .old (.sl a)::r=>match pK r with|some l=>some (.sl a::l)|none=>none
 |_=>none
def BX (l:List SV):SV:=match qO l with|some as=>.data (.agg as)|none=>(match pK l with|some as=>.old (.agg as)|none=>.gW l)
def oJ:AV→SV
 | .sl l=>.old (.sl l)
 | .agg l=>.old (.agg l)
 |a=>.data a
def Lu:AV→SV
 | .sl l=>.old (.sl l)
 | .agg l=>bif AV.qN l then .data (.agg l) else .old (.agg l)
 |a=>.data a
def SV.cells:SV→Option (List SV)
 | .data (.agg l)=>some (l.map .data)
 | .data a=>some [.data a]
 | .aj=>some [.aj]
 | .fr l=>some [.fr l]
 | .argv i j a=>some [.argv i j a]
 | .old (.agg l)=>some (l.map oJ)
 | .old (.sl l)=>some [.old (.sl l)]
 | .own τ g=>some [.own τ g]
 | .gW l=>some l
 |_=>none
def SV.Oi:SV→Bool
 | .data (.bool _)| .data (.int _ _)| .data (.str _)| .data .any=>true
 |_=>false
def SV.stands (s:St):SV→Bool
 | .own τ g| .iW τ g _ _=>match s.tok τ with|some t=>Nat.beq t.gen g|none=>false
 | .box d g _| .bsl d g _=>match s.mem d with|some (g',_)=>Nat.beq g' g|none=>false
 |_=>true
def splice (l:List SV) (off:Nat) (new:List SV):List SV:=l.take off++new++l.drop (off+new.length)
def erase (s:St):SV→(AV→St→Prop)→Prop
 | .data a,K=>K a s
 | .aj,K=>K (.sl []) s
 | .fr l,K=>K (.sl l) s
 | .argv _ _ a,K=>K a s
 | .own τ g,K=>match s.tok τ with
  |some t=>bif Nat.beq t.gen g then K (.sl t.l) (s.aS τ { t with frz:=true }) else False
  |none=>False
 |_,_=>False
def lH (s:St):List SV→(List AV→St→Prop)→Prop
 |[],K=>K [] s
 |v::r,K=>erase s v fun a s1=>lH s1 r fun as s2=>K (a::as) s2
def kJ (s:St) (v:SV) (K:AV→St→Prop):Prop:=
 match v with
 | .gW l=>lH s l fun as s1=>K (.agg as) s1
 |v=>erase s v K
def take1 (τ:Nat) (s:St):SV→(AV→Bool→St→Prop)→Prop
 | .data a,K=>K a a.flat s
 | .aj,K=>K (.sl []) true s
 | .fr l,K=>K (.sl l) false s
 | .own σ g,K=>match s.tok σ with
  |some t=>bif Nat.beq t.gen g then K (.sl t.l) (t.lin&& !Nat.beq σ τ) (s.aS σ { t with frz:=true,lin:=t.lin&&Nat.beq σ τ }) else False
  |none=>False
 |_,_=>False
def wW (τ:Nat) (s:St):List SV→(List AV→Bool→St→Prop)→Prop
 |[],K=>K [] true s
 |v::r,K=>take1 τ s v fun a q s1=>wW τ s1 r fun as q' s2=>K (a::as) (q&&q') s2
def qP (τ:Nat) (s:St) (v:SV) (K:AV→Bool→St→Prop):Prop:=
 match v with
 | .gW l=>wW τ s l fun as q s1=>K (.agg as) q s1
 |v=>take1 τ s v K
def oG (τ:Nat) (s:St):SV→Bool
 | .aj=>true
 | .own σ _=>match s.tok σ with|some t=>t.lin&& !Nat.beq σ τ|none=>false
 |_=>false
def jE (τ:Nat) (s:St):SV→St
 | .own σ _=>match s.tok σ with|some t=>s.aS σ { t with lin:=t.lin&&Nat.beq σ τ }|none=>s
 |_=>s
def St.content (s:St):SV→Option (List AV)
 | .data (.sl l)=>some l
 | .aj=>some []
 | .fr l=>some l
 | .own τ g=>match s.tok τ with|some t=>bif Nat.beq t.gen g then some t.l else none|none=>none
 |_=>none
def St.cont (s:St):SV→Option (List AV)
 | .old (.sl l)=>some l
 |v=>s.content v
def SV.Hw:SV→Bool
 | .old _=>true
 |_=>false
inductive AR where
 |d (a:AV)
 |ref (a:AV)
 |old (a:AV)
 |fn (f:Nat) (caps:List AV)
 |bx (cells:List SV)
 |lend (a:AV)
inductive RV where
 |d (a:AV)
 |own (E:Nat) (l:List AV)
 |lin (E:Nat) (l:List AV)
 |fr (l:List AV)
 |aj
 |agg (l:List RV)
 |tup (l:List RV)
 |arg (i off n:Nat)
 |junk
 |eff (i:Nat) (r:RV) (cs:List RV)
 |ptr (cs:List AV)
def iO (s:St) (v:SV) (K:AV→St→Prop):Prop:=
 match v with
 | .box d g 0=>match s.mem d with
  |some (g',cells)=>bif Nat.beq g' g then
    (match cells with
     |[c]=>erase s c K
     |cs=>lH s cs fun as s1=>K (.agg as) s1) else False
  |none=>False
 | .ref a=>K a s
 |_=>False
def iG (s:St):List SV→(List AV→St→Prop)→Prop
 |[],K=>K [] s
 |v::r,K=>iO s v fun a s1=>iG s1 r fun as s2=>K (a::as) s2
def pO (s:St):List SV→(List SV→St→Prop)→Prop
 |[],K=>K [] s
 | .aj::r,K=>pO s r fun as s1=>K (.aj::as) s1
 |v::r,K=>erase s v fun a s1=>pO s1 r fun as s2=>K (.data a::as) s2
def yT (τ:Nat):Bool:=Nat.ble 777000000000000 τ
def Lv (s:St) (τ g:Nat) (K:AR→St→Prop):Prop:=
 match s.tok τ with
 |some t=>bif Nat.beq t.gen g&& !t.frz then VC (AV.mds false t.l=true) (K (.lend (.sl t.l)) s) else False
 |none=>False
def wX:List SV→Bool
 |[]=>false
 | .box _ _ _::_=>true
 |_::r=>wX r
def dW (b:Bool) (s:St) (v:SV) (K:AR→St→Prop):Prop:=
 match v with
 | .own τ g=>bif yT τ&&b then Lv s τ g K else kJ s (.own τ g) fun a s1=>K (.d a) s1
 | .fn f caps=>iG s caps fun as s1=>K (.fn f as) s1
 | .fnr f caps=>K (.fn f caps) s
 | .old a=>K (.old a) s
 | .box d g 0=>match s.mem d with
  |some (g',cells)=>bif Nat.beq g' g then pO s cells fun as s1=>K (.bx as) s1 else False
  |none=>False
 |v=>kJ s v fun a s1=>K (.d a) s1
def fP (b:Bool) (s:St):List SV→(List AR→St→Prop)→Prop
 |[],K=>K [] s
 |v::r,K=>dW b s v fun a s1=>fP b s1 r fun as s2=>K (a::as) s2
def iP:Option Tok→Nat|some t=>t.gen+1|none=>0
def fJ:Option (Nat×List SV)→Nat|some (g,_)=>g+1|none=>0
def dS (s:St) (τ E:Nat) (l:List AV) (q:Bool):SV×St:=
 (.own τ (iP (s.tok τ)),s.aS τ ⟨iP (s.tok τ),false,E,l,q⟩)
def bB (s:St) (d:Nat) (cells:List SV):SV×St:=
 (.box d (fJ (s.mem d)) 0,s.bU d (fJ (s.mem d)) cells)
def DL (A:List SV) (i off n:Nat):SV:=
 match A[i]? with
 |some (.gW l)=>.gW ((l.drop off).take n)
 |some (.data (.agg l))=>.data (.agg ((l.drop off).take n))
 |_=>.undef
mutual
def RV.lay (A:List SV) (s:St) (τ:Nat):RV→SV×St
 | .d a=>(.data a,s)
 | .own E l=>dS s τ E l false
 | .lin E l=>dS s τ E l true
 | .fr l=>(.fr l,s)
 | .aj=>(.aj,s)
 | .agg l=>let (vs,s1):=RV.lI A s (τ*10+1) l;(.gW vs,s1)
 | .tup l=>let (vs,s1):=RV.lI A s (τ*10+1) l;(.tup vs,s1)
 | .arg i off n=>(DL A i off n,s)
 | .junk=>(.undef,s)
 | .eff _ _ _=>(.undef,s)
 | .ptr _=>(.undef,s)
def RV.lI (A:List SV) (s:St) (τ:Nat):List RV→List SV×St
 |[]=>([],s)
 |r::rs=>let (v,s1):=RV.lay A s τ r;let (vs,s2):=RV.lI A s1 (τ+1) rs;(v::vs,s2)
end
section
variable (T:Nat→Ty) (C:Nat→List AR→(RV→Prop)→Prop) (L:Nat)
def AV.scalar:AV→Bool
 | .bool _| .int _ _| .str _=>true
 |_=>false
def Uz:AV→AV→Option Bool
 | .bool a,.bool b=>some (a == b)
 | .int k a,.int k' b=>bif decide (k=k') then some (decide (a=b)) else none
 | .str a,.str b=>some (decide (a=b))
 |_,_=>none
def lJ:List AV→List AV→Option Bool
 |[],[]=>some true
 |a::r,b::t=>match Uz a b,lJ r t with|some x,some y=>some (x&&y)|_,_=>none
 |_,_=>none
def kindOk:TK→AV→Bool
 | .bool,.bool _| .int _,.int _ _| .str,.str _=>true
 |_,_=>false
def rX (i:Nat):List (Nat×Nat)→List AV→Bool
 |[],[]=>true
 |(off,t)::r,x::xs=>Nat.beq off i&&kindOk (T t).kind x&&rX (i+1) r xs
 |_,_=>false
def Ji (t:Nat) (l:List AV):Bool:=(T t).eq&&(match (T t).kind with| .struct fs=>rX T 0 fs l|_=>false)
def RO (op:BinOp) (k:IntKind) (x y:Int) (K:AV→Prop):Prop:=
 match op with
 | .add=>Arith k (x+y) fun r=>K (.int k r)
 | .sub=>Arith k (x - y) fun r=>K (.int k r)
 | .mul=>Arith k (x*y) fun r=>K (.int k r)
 | .quo=>VC (y≠0) (Arith k (x.tdiv y) fun r=>K (.int k r))
 | .rem=>VC (y≠0) (K (.int k (x.tmod y)))
 | .lss=>K (.bool (decide (x < y)))
 | .leq=>K (.bool (decide (x≤y)))
 | .gtr=>K (.bool (decide (x > y)))
 | .geq=>K (.bool (decide (x≥y)))
 | .eql=>K (.bool (decide (x=y)))
 | .neq=>K (.bool (!decide (x=y)))
 | .and=>K (.int k (k.wrap (BitVec.ofInt k.bits x&&& BitVec.ofInt k.bits y).toNat))
 | .xor=>K (.int k (k.wrap (BitVec.ofInt k.bits x ^^^ BitVec.ofInt k.bits y).toNat))
 | .shr=>VC (0≤y) (K (.int k (x.fdiv (2 ^ min y.toNat k.bits))))
 |_=>False
def DY (op:BinOp) (t:Nat) (a b:AV) (K:AV→Prop):Prop:=
 match a,b with
 | .int k x,.int k' y=>bif decide (k=k') then RO op k x y K else (match op with| .shr=>VC (0≤y) (K (.int k (x.fdiv (2 ^ min y.toNat k.bits))))|_=>False)
 | .str x,.str y=>(match op with
  | .eql=>K (.bool (decide (x=y)))
  | .neq=>K (.bool (!decide (x=y)))
  | .add=>VC (x.size+y.size≤L) (K (.str (x++y)))
  |_=>False)
 | .bool x,.bool y=>bif decide ((T t).kind= .bool) then (match op with
  | .eql=>K (.bool (x == y))
  | .neq=>K (.bool (!(x == y)))
  |_=>False) else False
 | .agg l,.agg m=>bif Ji T t l then (match op,lJ l m with
  | .eql,some b=>K (.bool b)
  | .neq,some b=>K (.bool (!b))
  |_,_=>False) else False
 |_,_=>False
def unA (op:UnOp) (v:SV) (K:SV→Prop):Prop:=
 match op,v with
 | .not,.data (.bool b)=>K (.data (.bool (!b)))
 | .neg,.data (.int k n)=>Arith k (0 - n) fun r=>K (.data (.int k r))
 |_,_=>False
def UA (v:SV) (c:Option (List AV)) (X:Bool→Prop):Prop:=
 match v with
 | .aj=>X true
 |_=>match c with|some l=>Uy l X|none=>False
def Wp (op:BinOp) (t:Nat) (v:SV) (c:Option (List AV)) (K:AV→Prop):Prop:=
 match (T t).kind,op with
 | .slice _,.eql=>UA v c fun b=>K (.bool b)
 | .slice _,.neq=>UA v c fun b=>K (.bool (!b))
 |_,_=>False
def gX (t f:Nat):Option (Nat×Nat):=match (T t).kind with| .struct fs=>fs[f]? |_=>none
def bJ (l:List AV) (off:Nat) (ty:Ty):Option AV:=
 bif ty.agg then some (.agg ((l.drop off).take ty.size)) else l[off]?
def eO (ty:Ty) (a:AV) (K:AV→Prop):Prop:=
 bif !ty.good then False else bif ty.agg then (match a with| .agg l=>bif Nat.beq l.length ty.size then K (.agg l) else False|_=>False)
 else (match a with| .agg _=>False|a=>K a)
def jD (ty:Ty) (cells:List SV) (off:Nat) (K:SV→Prop):Prop:=
 bif !ty.good then False else bif ty.agg then (bif Nat.ble (off+ty.size) cells.length then K (BX ((cells.drop off).take ty.size)) else False)
 else (match cells[off]? with|some v=>K v|none=>False)
def bP (e:AV) (off:Nat) (v:AV):AV:=
 match e with
 | .agg l=>.agg (l.take off++v.cells++l.drop (off+v.cells.length))
 |_=>v
def kT (fs:List (Nat×Nat)) (s:St):List (Nat×Operand)→List SV→Option (List SV)
 |[],cells=>some cells
 |(i,x)::r,cells=>match fs[i]?,(s.ev x).cells with
  |some (off,t),some new=>bif (T t).good&&Nat.beq new.length (T t).size&&(s.ev x).stands s then kT fs s r (splice cells off new) else none
  |_,_=>none
def uJ:ZC→SV
 | .aj=>.aj
 |z=>.data z.av
def mO (ty:Ty):AV:=bif ty.agg then .agg (ty.zero.map ZC.av) else (match ty.zero with|z::_=>z.av|[]=>.agg [])
def nX (sz:Nat) (s:St):Nat→List (Nat×Operand)→Option (List SV)
 |_,[]=>some []
 |i,(j,x)::r=>match (s.ev x).cells,nX sz s (i+1) r with
  |some new,some rest=>bif Nat.beq i j&&Nat.beq new.length sz&&(s.ev x).stands s then some (new++rest) else none
  |_,_=>none
def wide (ty:Ty) (n:Nat):Bool:=Nat.ble 2 n&& !ty.flat
def rD (z:List ZC) (τ:Nat) (s:St):Nat→List (Nat×Operand)→(List AV→Bool→St→Prop)→Prop
 |_,[],K=>K [] true s
 |i,(j,x)::r,K=>bif Nat.beq i j then qP τ s (s.ev x) fun a q s1=>bif bF z a.cells then rD z τ s1 (i+1) r fun as q' s2=>K (a::as) (q&&q') s2 else False else False
def RV.quiet:RV→Option SV
 | .d (.bool b)=>some (.data (.bool b))
 | .d (.int k n)=>some (.data (.int k n))
 |_=>none
def dn (d:Option Nat):Nat:=1000*((match d with|some d=>d|none=>3000000)+1)
def AR.DZ:AR→Bool
 | .bx _=>true
 | .lend _=>true
 |_=>false
def AR.RP:AR→Bool
 | .lend _=>true
 |_=>false
def eP:List AR→Bool
 |[]=>false
 |x::r=>x.RP||eP r
def Lx:List AR→Bool
 |[]=>true
 | .old _::_=>false
 |_::r=>Lx r
def sP:List AR→List AR
 |[]=>[]
 | .lend a::r=>.old a::sP r
 |x::r=>x::sP r
def AR.plain:AR→Bool
 | .ref _=>false
 | .fn _ (_::_)=>false
 |_=>true
def lK:List AR→Bool
 |[]=>true
 |x::r=> !x.DZ&&lK r
def sQ:List AR→Bool
 |[]=>true
 |x::r=>x.plain&&sQ r
def uY (A:List SV) (s0 s:St) (d:Option Nat) (args:List AR) (r:RV) (K:St→Prop):Prop:=
 match r with
 | .eff i r' cs=>(match A[i]? with
  |some (.box b g 0)=>bif (SV.box b g 0).stands s&& !lK args then
    (let p:=r'.lay A (s.bU b g (List.replicate cs.length .undef)) (dn d);let q:=RV.lI A p.2 (1000*(b+1)) cs;K ((q.2.bU b g q.1).put d p.1)) else False
  |_=>False)
 | .ptr cs=>(match d with
  |some d=>bif lK args&&Nat.blt d 1000000 then K ((bB s d (cs.map .data)).2.set d (bB s d (cs.map .data)).1) else False
  |none=>False)
 |r=>bif lK args then (match d with
  |some d=>(match r.quiet with
   |some v=>K (s0.set d v)
   |none=>let (v,s1):=r.lay A s (1000*(d+1));K (s1.set d v))
  |none=>K s) else False
def RV.uZ:RV→Bool
 | .eff _ _ _=>true
 | .ptr _=>true
 |_=>false
def RV.RQ:RV→Bool
 | .ptr _=>true
 |_=>false
theorem mP {A:List SV} {s0 s:St} {d:Option Nat} {args:List AR} {r:RV} {K:St→Prop} (h:r.uZ=false):uY A s0 s d args r K=(bif lK args then (match d with
  |some d=>(match r.quiet with
   |some v=>K (s0.set d v)
   |none=>K ((r.lay A s (1000*(d+1))).2.set d (r.lay A s (1000*(d+1))).1))
  |none=>K s) else False):=by
 cases r<;>first|rfl|cases h
def Ea (ck args:List AR):Bool:=(lK ck||sQ args)&&(!eP ck||Lx args)
def vk (ck args:List AR):List AR:=bif eP ck then sP args else args
theorem rY {ck args:List AR} (h:eP ck=false):vk ck args=args:=by simp only [vk,h,cond_false]
theorem xK {ck args:List AR} (h:eP ck=true):vk ck args=sP args:=by simp only [vk,h,cond_true]
theorem oL:∀{l:List AR} {caps:List AV},eP l=false→eP (l++caps.map .ref)=false
 |[],[],_=>rfl
 |[],_::caps,_=>oL (l:=[]) (caps:=caps) rfl
 |x::l,caps,h=>by
  simp only [eP,List.cons_append,Bool.or_eq_false_iff] at h ⊢
  exact⟨h.1,oL h.2⟩
def pQ (A:List SV) (s0 s:St) (d:Option Nat) (f:Nat) (ck args:List AR) (K:St→Prop):Prop:=
 bif Ea ck args then C f (vk ck args) fun r=>uY A s0 s d ck r K else False
def sliceLen (s:St):SV→Option Int
 | .data (.str x)=>some x.size
 |v=>match s.content v with|some l=>some l.length|none=>none
def bound (s:St) (dflt:Int):Option Operand→Option Int
 |none=>some dflt
 |some x=>match s.ev x with| .data (.int _ n)=>some n|_=>none
def iM (l:List AV) (a b:Int):List AV:=(l.take b.toNat).drop a.toNat
def dM (s:St) (d:Option Nat) (b:Builtin) (ts:List Nat) (args:List SV) (K:St→Prop):Prop:=
  match b,args with
  | .len,[x]=>(match ts with
    |[t]=>(match (T t).kind,s.content x,x with
      | .slice _,some l,_=>K (s.put d (.data (.int .i64 l.length)))
      | .str,_,.data (.str b)=>K (s.put d (.data (.int .i64 b.size)))
      | .slice _,none,.old (.sl l)=>K (s.put d (.data (.int .i64 l.length)))
      | .slice _,none,.bsl b g n=>bif (SV.bsl b g n).stands s then K (s.put d (.data (.int .i64 (n:Nat)))) else False
      |_,_,_=>False)
    |_=>False)
  | .max,[.data (.int k x),.data (.int k' y)]=>bif decide (k=k') then K (s.put d (.data (.int k (max x y)))) else False
  | .min,[.data (.int k x),.data (.int k' y)]=>bif decide (k=k') then K (s.put d (.data (.int k (min x y)))) else False
  | .append,[x,y]=>
    (match s.cont y,ts,d with
    |some m,[t1,t2],some dd=>(match (T t1).kind with
      | .slice E=>bif (T E).good&&Nat.beq t1 t2&&((T E).flat|| !y.Hw) then
        (match x with
         | .own τ g=>(match s.tok τ with
            |some t=>bif Nat.beq t.gen g&& !t.frz&&Nat.beq t.E E then
                VC (t.l.length+m.length≤L∧∀x∈m,bF (T E).zero x.cells=true) (bif (T E).flat then K ((s.aS τ ⟨g+1,false,E,t.l++m,true⟩).set dd (.own τ (g+1)))
                  else K (((jE τ s y).aS τ ⟨g+1,false,E,t.l++m,t.lin&&oG τ s y⟩).set dd (.own τ (g+1)))) else False
            |none=>False)
         | .aj=>VC (m.length≤L∧∀x∈m,bF (T E).zero x.cells=true) (bif (T E).flat then (let r:=dS s dd E m true;K (r.2.set dd r.1))
             else (let r:=dS (jE dd s y) dd E m (oG dd s y);K (r.2.set dd r.1)))
         |_=>False) else False
      |_=>False)
    |_,_,_=>False)
  |_,_=>False
def aop (o:Oper) (s:St) (K:St→Prop):Prop:=
 match o.op with
 | .move x| .assign x=>K (s.put o.dst (s.ev x))
 | .pick (.tmp c) a b=>match s.get c with
  | .data (.bool t)=>Br t fun t=>K ((s.set c (.data (.bool t))).put o.dst (bif t then s.ev a else s.ev b))
  |_=>False
 | .alloc E=>match o.dst with
  |some d=>bif (T E).good&&Nat.blt d 1000000 then (let r:=bB s d ((T E).zero.map uJ);K (r.2.set d r.1)) else False
  |none=>False
 | .box E x=>match o.dst,(s.ev x).cells with
  |some d,some cells=>bif (T E).good&&Nat.beq cells.length (T E).size&&(s.ev x).stands s&&Nat.blt d 1000000 then (let r:=bB s d cells;K (r.2.set d r.1)) else False
  |_,_=>False
 | .build t parts=>match (T t).kind with
  | .struct fs=>(match kT T fs s parts.toList ((T t).zero.map uJ) with
   |some cells=>K (s.put o.dst (BX cells))
   |none=>False)
  |_=>False
 | .buildSlice t n parts=>match (T t).kind,o.dst with
  | .slice E,some d=>bif Nat.beq n parts.toList.length&&(T E).good&&Nat.ble (n*(T E).size) 1000&&Nat.blt d 1000000 then
    bif wide (T E) n then (match nX (T E).size s 0 parts.toList with
     |some cells=>(let r:=bB s d cells;K (r.2.set d (.bsl d (fJ (s.mem d)) n)))
     |none=>False)
    else rD (T E).zero d s 0 parts.toList fun as q s1=>(let r:=dS s1 d E as ((T E).flat||q);K (r.2.set d r.1)) else False
  |_,_=>False
 | .load t a=>match s.ev a with
  | .ref x=>eO (T t) x fun v=>K (s.put o.dst (.data v))
  | .bQ x=>eO (T t) x fun v=>K (s.put o.dst (Lu v))
  | .box d g off=>(match s.mem d with
   |some (g',cells)=>bif Nat.beq g' g then jD (T t) cells off fun v=>K (s.put o.dst v) else False
   |none=>False)
  | .iW τ g k off=>(match s.tok τ with
   |some tk=>bif Nat.beq tk.gen g&& !tk.frz then
     Idx tk.l k fun _ x=>(match bJ x.cells off (T t) with
      |some v=>bif Nat.ble (off+(T t).size) x.cells.length then eO (T t) v fun v=>K (s.put o.dst (.data v)) else False
      |none=>False) else False
   |none=>False)
  |_=>False
 | .store t a x=>match s.ev a with
  | .box d g off=>(match (s.ev x).cells,s.mem d with
   |some new,some (g',cells)=>bif Nat.beq g' g&&(T t).good&&(s.ev x).stands s&&Nat.beq new.length (T t).size&&Nat.ble (off+new.length) cells.length then
     K ((s.bU d g (splice cells off new)).put o.dst .undef) else False
   |_,_=>False)
  | .iW τ g k off=>bif (T t).good then qP τ s (s.ev x) fun v q s1=>(match s1.tok τ with
   |some tk=>bif Nat.beq tk.gen g&& !tk.frz&&bF (T t).zero v.cells&&uX (T tk.E) (T t) off then
     Idx tk.l k fun j e=>bif Nat.ble (off+(T t).size) e.cells.length then
      K ((s1.aS τ { tk with l:=tk.l.set j (bP e off v),lin:=tk.lin&&((T t).flat||q) }).put o.dst .undef) else False
     else False
   |none=>False) else False
  | .bQ .any=>bif (T t).good&&Nat.beq (T t).size 1&&(s.ev x).Oi then K (s.put o.dst .undef) else False
  |_=>False
 | .nilCheck x=>match s.ev x with
  | .box d g off=>bif (SV.box d g off).stands s then K (s.put o.dst (.box d g off)) else False
  | .ref a=>K (s.put o.dst (.ref a))
  | .bQ a=>K (s.put o.dst (.bQ a))
  | .fn f c=>K (s.put o.dst (.fn f c))
  | .fnr f c=>K (s.put o.dst (.fnr f c))
  |_=>False
 | .binOp op t x y _=>match s.ev y with
  | .aj=>Wp T op t (s.ev x) (s.content (s.ev x)) fun v=>K (s.put o.dst (.data v))
  | .data b=>(match s.ev x with
   | .data a=>DY T L op t a b fun v=>K (s.put o.dst (.data v))
   |_=>False)
  |_=>False
 | .unOp op _ x=>unA op (s.ev x) fun v=>K (s.put o.dst v)
 | .convert src t x=>match (T src).kind,(T t).kind,s.ev x with
  | .int _,.int k,.data (.int _ n)=>K (s.put o.dst (.data (.int k (k.wrap n))))
  |_,_,_=>False
 | .makeFunc (.func f) first captured=>bif first.isEmpty then K (s.put o.dst (.fn f (captured.toList.map s.ev))) else False
 | .fieldAddr t x f=>match s.ev x,gX T t f with
  | .box d g off,some (fo,_)=>bif (SV.box d g off).stands s then K (s.put o.dst (.box d g (off+fo))) else False
  | .ref (.agg l),some (fo,ft)=>(match bJ l fo (T ft) with
   |some v=>K (s.put o.dst (.ref v))
   |none=>False)
  | .bQ (.agg l),some (fo,ft)=>(match bJ l fo (T ft) with
   |some v=>K (s.put o.dst (.bQ v))
   |none=>False)
  | .iW τ g k off,some (fo,_)=>bif (SV.iW τ g k off).stands s then K (s.put o.dst (.iW τ g k (off+fo))) else False
  |_,_=>False
 | .field t x f=>match s.ev x,gX T t f with
  | .data (.agg l),some (fo,ft)=>(match bJ l fo (T ft),Nat.beq l.length (T t).size with
   |some v,true=>K (s.put o.dst (.data v))
   |_,_=>False)
  | .old (.agg l),some (fo,ft)=>(match bJ l fo (T ft),Nat.beq l.length (T t).size with
   |some v,true=>K (s.put o.dst (oJ v))
   |_,_=>False)
  | .gW l,some (fo,ft)=>bif Nat.beq l.length (T t).size then jD (T ft) l fo fun v=>K (s.put o.dst v) else False
  |_,_=>False
 | .indexAddr t x i=>match (T t).kind,s.ev x,s.ev i with
  | .slice E,.data (.sl l),.data (.int _ n)=>bif (T E).good then Idx l n fun _ x=>bif Nat.beq x.cells.length (T E).size then K (s.put o.dst (.ref x)) else False else False
  | .slice E,.old (.sl l),.data (.int _ n)=>bif (T E).good then Idx l n fun _ x=>bif Nat.beq x.cells.length (T E).size then K (s.put o.dst (.bQ x)) else False else False
  | .slice E,.fr l,.data (.int _ n)=>bif (T E).good then Idx l n fun _ x=>bif Nat.beq x.cells.length (T E).size then K (s.put o.dst (.ref x)) else False else False
  | .slice E,.own τ g,.data (.int _ n)=>(match s.tok τ with
   |some tk=>bif Nat.beq tk.gen g&&Nat.beq tk.E E&&(T E).good then
     (bif tk.frz then Idx tk.l n fun _ x=>bif Nat.beq x.cells.length (T E).size then K (s.put o.dst (.ref x)) else False
      else Idx tk.l n fun k _=>K (s.put o.dst (.iW τ g k 0))) else False
   |none=>False)
  | .slice E,.bsl d g m,.data (.int _ n)=>bif (SV.bsl d g m).stands s&&(T E).good then VC (0≤n∧n < m) (K (s.put o.dst (.box d g (n.toNat*(T E).size)))) else False
  |_,_,_=>False
 | .index t x i=>match (T t).kind,s.ev x,s.ev i with
  | .str,.data (.str b),.data (.int _ n)=>VC (0≤n∧n < b.size) (K (s.put o.dst (.data (.int .u8 ((b.data.toList.getD n.toNat 0).toNat)))))
  |_,_,_=>False
 | .slice t x lo hi none=>match (T t).kind,sliceLen s (s.ev x) with
  | .slice E,some len=>(match bound s 0 lo,bound s len hi with
   |some a,some b=>VC (0≤a∧a≤b∧b≤len) (bif (T E).good then kJ s (s.ev x) fun v s1=>match v with
    | .sl l=>VC ((l.length:Int)=len∧(a=0∨∀x,l.head? =some x→x.cells.length=(T E).size)) (K (s1.put o.dst (.data (.sl (iM l a b)))))
    |_=>False else False)
   |_,_=>False)
  | .str,some len=>(match bound s 0 lo,bound s len hi,s.ev x with
   |some a,some b,.data (.str v)=>VC (0≤a∧a≤b∧b≤len) (K (s.put o.dst (.data (.str (v.extract a.toNat b.toNat)))))
   |_,_,_=>False)
  |_,_=>False
 | .makeSlice t n cp=>match (T t).kind,o.dst,s.ev n,s.ev cp with
  | .slice E,some d,.data (.int .i64 m),.data (.int .i64 m')=>bif (T E).good then VC (m'=m∧0≤m∧m≤L) (let r:=dS s d E (List.replicate m.toNat (mO (T E))) true;K (r.2.set d r.1)) else False
  |_,_,_,_=>False
 | .extract x i=>match s.ev x with
  | .tup l=>(match l[i]? with|some v=>K (s.put o.dst v)|none=>False)
  |_=>False
 | .call c=>match c.callee with
  | .builtin b=>dM T L s o.dst b c.argTypes.toList (c.args.toList.map s.ev) K
  | .value (.func f)=>fP (wX (c.args.toList.map s.ev)) s (c.args.toList.map s.ev) fun as s1=>pQ C (c.args.toList.map s.ev) s s1 o.dst f as as K
  | .value (.tmp t)=>(match s.get t with
   | .fnr f caps=>fP (wX (c.args.toList.map s.ev)) s (c.args.toList.map s.ev) fun as s1=>pQ C (c.args.toList.map s.ev) s s1 o.dst f as (as++caps.map .ref) K
   | .fn f caps=>fP (wX (c.args.toList.map s.ev)) s (c.args.toList.map s.ev) fun as s1=>iG s1 caps fun cs s2=>pQ C (c.args.toList.map s.ev) s s2 o.dst f as (as++cs.map .ref) K
   |_=>False)
  |_=>False
 |_=>False
def Df (ops:List Oper):List Oper→St→(St→Prop)→Prop
 |[],s,K=>K s
 |o::r,s,K=>match o.guard with
  |none=>aop T C L o s fun s1=>Df ops r s1 K
  |some (g,want)=>match (match ops[g]? with|some og=>og.dst|none=>none) with
   |some t=>(match s.get t with
    | .data (.bool b)=>Br b fun b=>bif (b == want) then aop T C L o (s.set t (.data (.bool b))) (fun s1=>Df ops r s1 K)
      else Df ops r ((s.set t (.data (.bool b))).put o.dst .gone) K
    | .gone=>Df ops r (s.put o.dst .gone) K
    |_=>False)
   |none=>False
end
end Go.Proofs.YtpfgedlimdeffaaGreat.Abs
namespace Go.Proofs.YtpfgedlimdeffaaGreat.Abs
inductive Key where
 |slot (i:Nat)
 |mem (d:Nat)
 |tok (t:Nat)
def Key.beq:Key→Key→Bool
 | .slot i,.slot j=>Nat.beq i j
 | .mem i,.mem j=>Nat.beq i j
 | .tok i,.tok j=>Nat.beq i j
 |_,_=>false
theorem Key.beq_iff {k k':Key}:Key.beq k k'=true↔k=k':=by
 cases k<;>cases k'<;>simp [Key.beq]
def Key.isIn (k:Key):List Key→Bool
 |[]=>false
 |k'::r=>k.beq k'||k.isIn r
theorem Key.LA {k:Key}:∀{l:List Key},k.isIn l=true↔k∈l
 |[]=>by simp [Key.isIn]
 |k'::r=>by simp [Key.isIn,Key.beq_iff,Key.LA (l:=r)]
def apart:List Key→List Key→Bool
 |[],_=>true
 |k::r,l=> !k.isIn l&&apart r l
theorem apart_spec:∀{a b:List Key},apart a b=true→∀k∈a,k∉b
 |[],_,_,_,h=>by simp at h
 |k'::r,b,h,k,hk=>by
  simp only [apart,Bool.and_eq_true,Bool.not_eq_true'] at h
  rcases List.mem_cons.1 hk with rfl|hk
  ·intro hb;rw [Key.LA.2 hb] at h;simp at h
  ·exact apart_spec h.2 k hk
def same (k:Key) (s t:St):Prop:=
 match k with
 | .slot i=>s.get i=t.get i
 | .mem d=>s.mem d=t.mem d
 | .tok τ=>s.tok τ=t.tok τ
theorem same.trans {k:Key} {s t u:St} (h:same k s t) (h':same k t u):same k s u:=by
 cases k<;>simp_all [same]
theorem same.symm {k:Key} {s t:St} (h:same k s t):same k t s:=by
 cases k<;>simp_all [same]
theorem same.refl {k:Key} {s:St}:same k s s:=by
 cases k<;>simp [same]
theorem St.ext' {s t:St} (hn:s.n=t.n) (h:∀k,same k s t):s=t:=by
 cases s;cases t
 simp only [St.mk.injEq] at*
 refine⟨hn,?_,?_,?_⟩
 ·funext i;exact h (.slot i)
 ·funext i;exact h (.mem i)
 ·funext i;exact h (.tok i)
inductive Wr where
 |slot (i:Nat) (v:SV)
 |mem (d g:Nat) (cells:List SV)
 |tok (τ:Nat) (t:Tok)
def Wr.key:Wr→Key
 | .slot i _=>.slot i
 | .mem d _ _=>.mem d
 | .tok τ _=>.tok τ
def St.wr (s:St):Wr→St
 | .slot i v=>s.set i v
 | .mem d g cs=>s.bU d g cs
 | .tok τ t=>s.aS τ t
def St.app (s:St):List Wr→St
 |[]=>s
 |w::r=>(s.wr w).app r
theorem St.Wq {s:St} {w:Wr}:(s.wr w).n=s.n:=by cases w<;>rfl
theorem St.rZ:∀{ws:List Wr} {s:St},(s.app ws).n=s.n
 |[],_=>rfl
 |w::r,s=>by simp only [St.app];rw [St.rZ,St.Wq]
theorem St.aH:∀{ws vs:List Wr} {s:St},s.app (ws++vs)=(s.app ws).app vs
 |[],_,_=>rfl
 |w::r,vs,s=>by simp only [List.cons_append,St.app];exact St.aH
theorem UC {s t:St} {w:Wr} {k:Key} (hn:s.n=t.n) (h:same k s t):same k (s.wr w) (t.wr w):=by
 cases w<;>cases k<;>simp_all [same,St.wr,St.set,St.bU,St.aS]
theorem Oj {s:St} {w:Wr} {k:Key} (h:k≠w.key):same k s (s.wr w):=by
 cases w<;>cases k<;>simp_all [same,St.wr,St.set,St.bU,St.aS,Wr.key,cond]
 all_goals (split<;>simp_all)
theorem fQ:∀{ws:List Wr} {s t:St} {k:Key},s.n=t.n→same k s t→same k (s.app ws) (t.app ws)
 |[],_,_,_,_,h=>h
 |w::r,s,t,k,hn,h=>by
  simp only [St.app]
  exact fQ (by simp [St.Wq,hn]) (UC hn h)
def jF (k:Key) (ws:List Wr):List Wr:=ws.filter fun w=>w.key.beq k
theorem sS {k:Key}:∀{ws:List Wr} {s:St},same k (s.app ws) (s.app (jF k ws))
 |[],_=>same.refl
 |w::r,s=>by
  cases hb:w.key.beq k with
  |true=>
   simp only [jF,List.filter_cons,hb,if_true,St.app]
   exact sS
  |false=>
   simp only [jF,List.filter_cons,hb,St.app]
   refine same.trans ?_ sS
   exact fQ St.Wq (Oj fun e=>by rw [e,Key.beq_iff.2 rfl] at hb;cases hb).symm
theorem rE {k:Key} {ws vs:List Wr} {s:St} (h:jF k ws=jF k vs):same k (s.app ws) (s.app vs):=
 sS.trans (h ▸ sS.symm)
theorem jU {k:Key} {ws vs:List Wr}:jF k (ws++vs)=jF k ws++jF k vs:=by simp [jF]
theorem wh {k:Key} {ws:List Wr} {W:List Key} (hw:∀w∈ws,w.key∈W) (hk:k∉W):jF k ws= []:=by
 simp only [jF,List.filter_eq_nil_iff]
 intro w hm hb
 exact hk (Key.beq_iff.1 hb ▸ hw w hm)
def sel (l:Nat→Bool) (i:Nat):List (List Wr)→List Wr
 |[]=>[]
 |ws::r=>(bif l i then ws else [])++sel l (i+1) r
theorem wo {k:Key} {l l':Nat→Bool}:∀{tr:List (List Wr)} {i:Nat},
  (∀j ws,tr[j]? =some ws→l (i+j)=l' (i+j)∨jF k ws= [])→jF k (sel l i tr)=jF k (sel l' i tr)
 |[],_,_=>rfl
 |ws::r,i,h=>by
  simp only [sel,jU]
  congr 1
  ·rcases h 0 ws rfl with h|h
   ·rw [Nat.add_zero] at h;rw [h]
   ·cases l i<;>cases l' i<;>simp [h]<;>rfl
  ·refine wo fun j ws hj=>?_
   have:=h (j+1) ws (by simpa using hj)
   rwa [show i+(j+1)=i+1+j by omega] at this
theorem Eb {k:Key} {l:Nat→Bool}:∀{tr:List (List Wr)} {i:Nat},
  (∀j ws,tr[j]? =some ws→l (i+j)=true→jF k ws= [])→jF k (sel l i tr)= []
 |[],_,_=>rfl
 |ws::r,i,h=>by
  simp only [sel,jU]
  rw [Eb (tr:=r) fun j ws hj hl=>h (j+1) ws (by simpa using hj) (by rwa [show i+(j+1)=i+1+j by omega])]
  cases hl:l i with
  |true=>simp [h 0 ws rfl (by simpa using hl)]
  |false=>rfl
theorem PO {k:Key} {l l':Nat→Bool} {m:Nat} {wm:List Wr} (hm:l m=false) (hm':l' m=true) (ho:∀j,j≠m→l' j=l j):
  ∀{tr:List (List Wr)} {i e:Nat},i+e=m→tr[e]? =some wm→(∀j ws,e < j→tr[j]? =some ws→l (i+j)=true→jF k ws= [])→
   jF k (sel l' i tr)=jF k (sel l i tr++wm)
 |[],_,_,_,h,_=>by simp at h
 |ws::r,i,0,hi,h,hj=>by
  simp only [List.getElem?_cons_zero,Option.some.injEq] at h;subst h
  simp only [Nat.add_zero] at hi;subst hi
  simp only [sel,jU,hm,hm',cond_true,cond_false]
  have h1:jF k (sel l (i+1) r)= []:=Eb fun j ws' hj' hl=>hj (j+1) ws' (by omega) (by simpa using hj') (by rwa [show i+(j+1)=i+1+j by omega])
  have h2:jF k (sel l' (i+1) r)= []:=by
   refine Eb fun j ws' hj' hl=>hj (j+1) ws' (by omega) (by simpa using hj') ?_
   rw [ho _ (by omega)] at hl
   rwa [show i+(j+1)=i+1+j by omega]
  rw [h1,h2];simp [jF]
 |ws::r,i,e+1,hi,h,hj=>by
  simp only [sel,List.append_assoc]
  rw [jU,jU,ho i (by omega)]
  congr 1
  exact PO hm hm' ho (i:=i+1) (e:=e) (by omega) (by simpa using h) fun j ws' hlt hj' hl=>hj (j+1) ws' (by omega) (by simpa using hj') (by rwa [show i+(j+1)=i+1+j by omega])
abbrev RW:=List Key×List Key
def clash (a b:RW):Bool:= !(apart a.2 b.1&&apart a.2 b.2&&apart b.2 a.1)
theorem xL {a b:RW} (h:clash a b=false):(∀k∈a.2,k∉b.1)∧(∀k∈a.2,k∉b.2)∧(∀k∈b.2,k∉a.1):=by
 simp only [clash,Bool.not_eq_false',Bool.and_eq_true] at h
 exact⟨apart_spec h.1.1,apart_spec h.1.2,apart_spec h.2⟩
section
variable {s0:St} {tr:List (List Wr)} {fp:List RW} {l:Nat→Bool}
theorem LB {i:Nat} {p:RW} (hlen:fp.length=tr.length)
  (hw:∀(j:Nat) (ws:List Wr) (q:RW),tr[j]? =some ws→fp[j]? =some q→∀w∈ws,w.key∈q.2)
  (hlo:∀(j:Nat) (q:RW),j < i→l j=false→fp[j]? =some q→clash q p=false)
  (hhi:∀(j:Nat) (q:RW),i≤j→l j=true→fp[j]? =some q→clash p q=false):
  ∀k∈p.1,same k (s0.app (sel (fun j=>decide (j < i)) 0 tr)) (s0.app (sel l 0 tr)):=by
 intro k hk
 refine rE (wo fun j ws hj=>?_)
 obtain⟨q,hq⟩:∃q,fp[j]? =some q:=by
  have:j < fp.length:=by rw [hlen];exact (List.getElem?_eq_some_iff.1 hj).1
  exact⟨_,List.getElem?_eq_getElem this⟩
 simp only [Nat.zero_add]
 by_cases hji:j < i
 ·cases hl:l j with
  |true=>left;simp [hji]
  |false=>
   right
   refine wh (hw j ws q hj hq) fun hkq=>?_
   exact (xL (hlo j q hji hl hq)).1 k hkq hk
 ·cases hl:l j with
  |false=>left;simp [hji]
  |true=>
   right
   refine wh (hw j ws q hj hq) fun hkq=>?_
   exact (xL (hhi j q (by omega) hl hq)).2.2 k hkq hk
theorem Ol {i:Nat} {l':Nat→Bool} {p:RW} {wi:List Wr} (hp:fp[i]? =some p) (hi:tr[i]? =some wi) (hlen:fp.length=tr.length)
  (hw:∀(j:Nat) (ws:List Wr) (q:RW),tr[j]? =some ws→fp[j]? =some q→∀w∈ws,w.key∈q.2)
  (hhi:∀(j:Nat) (q:RW),i < j→l j=true→fp[j]? =some q→clash p q=false)
  (hl:l i=false) (hl':l' i=true) (ho:∀j,j≠i→l' j=l j):
  s0.app (sel l' 0 tr)=(s0.app (sel l 0 tr)).app wi:=by
 rw [← St.aH]
 refine St.ext' (by simp [St.rZ]) fun k=>rE ?_
 by_cases hk:jF k wi= []
 ·rw [jU,hk,List.append_nil]
  refine wo fun j ws hj=>?_
  by_cases hji:j=i
  ·subst hji;rw [hi] at hj;cases hj;exact .inr hk
  ·left;simpa using ho j hji
 ·refine PO hl hl' ho (by omega:0+i=i) hi fun j ws hlt hj hlj=>?_
  obtain⟨q,hq⟩:∃q,fp[j]? =some q:=by
   have:j < fp.length:=by rw [hlen];exact (List.getElem?_eq_some_iff.1 hj).1
   exact⟨_,List.getElem?_eq_getElem this⟩
  refine wh (hw j ws q hj hq) fun hkq=>hk (wh (hw i wi p hi hp) fun hkp=>?_)
  exact (xL (hhi j q hlt (by simpa using hlj) hq)).2.1 k hkp hkq
end
inductive Anc (ops:List Oper):Nat→Nat→Prop
 |one {j:Nat} {o:Oper} {e:Edge}:ops[j]? =some o→e∈o.after.toList→Region.binds .any e=true→Anc ops j e.on
 |more {j i:Nat} {o:Oper} {e:Edge}:ops[j]? =some o→e∈o.after.toList→Region.binds .any e=true→Anc ops e.on i→Anc ops j i
def xM (masks:List Nat):List Edge→Nat
 |[]=>0
 |e::r=>(bif Region.binds .any e then (2 ^ e.on)|||(masks.getD e.on 0) else 0)|||xM masks r
def DN (m:Nat) (p:RW):Nat→List RW→Bool
 |_,[]=>true
 |i,q::r=>(m.testBit i|| !clash q p)&&DN m p (i+1) r
def Hy:Nat→List Nat→List RW→List Oper→List RW→Bool
 |_,_,_,[],[]=>true
 |j,masks,fps,o::r,p::ps=>o.after.toList.all (fun e=> !Region.binds .any e||Nat.blt e.on j)&&(DN (xM masks o.after.toList) p 0 fps&&
   Hy (j+1) (masks++[xM masks o.after.toList]) (fps++[p]) r ps)
 |_,_,_,_,_=>false
theorem BZ {ops:List Oper} {masks:List Nat} (hm:∀e i,(masks.getD e 0).testBit i=true→Anc ops e i) {j:Nat} {o:Oper} (ho:ops[j]? =some o):
  ∀(l:List Edge),(∀e∈l,e∈o.after.toList)→∀i,(xM masks l).testBit i=true→Anc ops j i
 |[],_,i,h=>by simp [xM] at h
 |e::r,hl,i,h=>by
  simp only [xM,Nat.testBit_or,Bool.or_eq_true] at h
  rcases h with h|h
  ·cases hb:Region.binds .any e with
   |false=>simp [hb] at h
   |true=>
    simp only [hb,cond_true,Nat.testBit_or,Bool.or_eq_true,Nat.testBit_two_pow,decide_eq_true_eq] at h
    rcases h with h|h
    ·exact h ▸ .one ho (hl e (by simp)) hb
    ·exact .more ho (hl e (by simp)) hb (hm _ _ h)
  ·exact BZ hm ho r (fun e he=>hl e (by simp [he])) i h
theorem yU {m:Nat} {p:RW}:∀{l:List RW} {i:Nat},DN m p i l=true→∀k q,l[k]? =some q→m.testBit (i+k)=true∨clash q p=false
 |[],_,_,k,q,hq=>by simp at hq
 |q'::r,i,h,k,q,hq=>by
  simp only [DN,Bool.and_eq_true,Bool.or_eq_true,Bool.not_eq_true'] at h
  cases k with
  |zero=>simp at hq;subst hq;simpa using h.1
  |succ k=>
   have:=yU h.2 k q (by simpa using hq)
   rwa [show i+1+k=i+(k+1) by omega] at this
structure VO (ops:List Oper) (fp:List RW):Prop where
 low:∀(j:Nat) (o:Oper),ops[j]? =some o→∀e∈o.after.toList,Region.binds .any e=true→e.on < j
 len:ops.length=fp.length
 ord:∀(i j:Nat) (p q:RW),i < j→fp[i]? =some p→fp[j]? =some q→Anc ops j i∨clash p q=false
theorem Ec {ops:List Oper} {fp:List RW}:∀(r:List Oper) (ps:List RW) (masks:List Nat) (pre:List Oper) (fps:List RW),
  ops=pre++r→fp=fps++ps→pre.length=fps.length→masks.length=pre.length→(∀e i,(masks.getD e 0).testBit i=true→Anc ops e i)→
  Hy pre.length masks fps r ps=true→
  r.length=ps.length∧∀j,pre.length≤j→(∀o,ops[j]? =some o→∀e∈o.after.toList,Region.binds .any e=true→e.on < j)∧∀i p q,i < j→fp[i]? =some p→fp[j]? =some q→Anc ops j i∨clash p q=false
 |[],[],masks,pre,fps,ho,hf,hl,hml,hm,_=>by
  refine⟨rfl,fun j hj=>⟨fun o h=>?_,fun i p q _ _ h=>?_⟩⟩
  ·have:=(List.getElem?_eq_some_iff.1 h).1
   rw [ho] at this;simp at this;omega
  ·have:=(List.getElem?_eq_some_iff.1 h).1
   rw [hf] at this;simp at this;omega
 |[],_::_,_,_,_,_,_,_,_,_,h=>by simp [Hy] at h
 |_::_,[],_,_,_,_,_,_,_,_,h=>by simp [Hy] at h
 |o::r,p::ps,masks,pre,fps,ho,hf,hl,hml,hm,h=>by
  simp only [Hy,Bool.and_eq_true,List.all_eq_true] at h
  obtain⟨h1,h2,h3⟩:=h
  have hoj:ops[pre.length]? =some o:=by rw [ho];simp
  have hms:=BZ hm hoj o.after.toList (fun e he=>he)
  have ih:=Ec (ops:=ops) (fp:=fp) r ps (masks++[xM masks o.after.toList]) (pre++[o]) (fps++[p]) (by simp [ho]) (by simp [hf]) (by simp [hl]) (by simp [hml]) (by
   intro e i he
   by_cases hlt:e < masks.length
   ·rw [List.getD_eq_getElem?_getD,List.getElem?_append_left hlt, ← List.getD_eq_getElem?_getD] at he
    exact hm e i he
   ·by_cases heq:e=masks.length
    ·subst heq
     rw [List.getD_eq_getElem?_getD] at he
     simp at he
     rw [hml];exact hms i he
    ·rw [List.getD_eq_getElem?_getD,List.getElem?_eq_none (by simp;omega)] at he
     simp at he) (by simpa using h3)
  refine⟨by simp [ih.1],fun j hj=>?_⟩
  rcases Nat.lt_or_ge pre.length j with hlt|hge
  ·exact ih.2 j (by simp;omega)
  ·have:j=pre.length:=by omega
   subst this
   refine⟨fun o' ho' e he hb=>?_,fun i p' q hi hp' hq=>?_⟩
   ·rw [hoj] at ho';cases ho'
    have h1e:=h1 e he
    rw [hb] at h1e
    exact Nat.blt_eq ▸ (by simpa using h1e)
   ·have hq':q=p:=by rw [hf,hl] at hq;simpa using hq.symm
    subst hq'
    have hp'':fps[i]? =some p':=by
     rw [hf,List.getElem?_append_left (by omega)] at hp';exact hp'
    rcases yU h2 i p' hp'' with h|h
    ·exact .inl (hms i (by simpa using h))
    ·exact .inr h
def yV (ops:List Oper) (fp:List RW):Bool:=Hy 0 [] [] ops fp
theorem Om {ops:List Oper} {fp:List RW} (h:yV ops fp=true):VO ops fp:=by
 obtain⟨h1,h2⟩:=Ec (ops:=ops) (fp:=fp) ops fp [] [] [] rfl rfl rfl rfl (fun e i h=>by simp at h) h
 exact⟨fun j=>(h2 j (by simp)).1,h1,fun i j p q hi=>(h2 j (by simp)).2 i p q hi⟩
open Go.RowKit
def aN {α β:Type} (R:α→β→Prop):List α→List β→Prop
 |[],[]=>True
 |a::l,b::m=>R a b∧aN R l m
 |_,_=>False
theorem aN.length {α β:Type} {R:α→β→Prop}:∀{l:List α} {m:List β},aN R l m→l.length=m.length
 |[],[],_=>rfl
 |_::_,_::_,h=>by simp [aN.length h.2]
 |[],_::_,h=>h.elim
 |_::_,[],h=>h.elim
theorem aN.mono {α β:Type} {R S:α→β→Prop} (hRS:∀a b,R a b→S a b):∀{l:List α} {m:List β},aN R l m→aN S l m
 |[],[],_=>trivial
 |_::_,_::_,h=>⟨hRS _ _ h.1,aN.mono hRS h.2⟩
 |[],_::_,h=>h.elim
 |_::_,[],h=>h.elim
theorem aN.get {α β:Type} {R:α→β→Prop}:∀{l:List α} {m:List β} {i:Nat} {a:α},aN R l m→l[i]? =some a→∃b,m[i]? =some b∧R a b
 |[],[],_,_,_,h=>by simp at h
 |x::_,y::_,0,a,h,e=>by simp at e;subst e;exact⟨y,rfl,h.1⟩
 |_::_,_::_,i+1,a,h,e=>by simpa using aN.get h.2 (by simpa using e)
 |[],_::_,_,_,h,_=>h.elim
 |_::_,[],_,_,h,_=>h.elim
theorem aN.append {α β:Type} {R:α→β→Prop}:∀{l:List α} {m:List β} {l':List α} {m':List β},aN R l m→aN R l' m'→aN R (l++l') (m++m')
 |[],[],_,_,_,h=>h
 |_::_,_::_,_,_,h,h'=>⟨h.1,aN.append h.2 h'⟩
 |[],_::_,_,_,h,_=>h.elim
 |_::_,[],_,_,h,_=>h.elim
theorem aN.take {α β:Type} {R:α→β→Prop}:∀{l:List α} {m:List β} (n:Nat),aN R l m→aN R (l.take n) (m.take n)
 |[],[],_,_=>by simp [aN]
 |_::_,_::_,0,_=>by simp [aN]
 |_::_,_::_,n+1,h=>⟨h.1,aN.take n h.2⟩
 |[],_::_,_,h=>h.elim
 |_::_,[],_,h=>h.elim
theorem aN.drop {α β:Type} {R:α→β→Prop}:∀{l:List α} {m:List β} (n:Nat),aN R l m→aN R (l.drop n) (m.drop n)
 |[],[],_,_=>by simp [aN]
 |_::_,_::_,0,h=>h
 |_::_,_::_,n+1,h=>aN.drop n h.2
 |[],_::_,_,h=>h.elim
 |_::_,[],_,h=>h.elim
theorem aN.map {α β γ:Type} {R:α→β→Prop} {S:γ→β→Prop} (f:α→γ) (h:∀a b,R a b→S (f a) b):∀{l:List α} {m:List β},aN R l m→aN S (l.map f) m
 |[],[],_=>trivial
 |_::_,_::_,hh=>⟨h _ _ hh.1,aN.map f h hh.2⟩
 |[],_::_,h=>h.elim
 |_::_,[],h=>h.elim
def QH (I:Nat→Prop) (L len:Nat) (E:Nat→Nat→Nat→Prop) (v:Value):Prop:=
 ∃a cap,v= .slice a len cap∧len≤L∧len≤cap∧(len=0∨∃b o sz,a=some ⟨b,o,none⟩∧I b∧E b sz o)
def Sc:Value→Prop
 | .bool _| .int _ _| .string _=>True
 |_=>False
mutual
def aD (I:Nat→Prop) (w:World) (L:Nat):AV→Value→Prop
 | .bool b,v=>v= .bool b
 | .int k n,v=>v= .int k n
 | .str s,v=>v= .string s
 | .sl l,v=>QH I L l.length (fun b sz o=>bI I w L b sz l o) v
 | .any,v=>Sc v
 | .agg _,_=>False
def bI (I:Nat→Prop) (w:World) (L b sz:Nat):List AV→Nat→Prop
 |[],_=>True
 |x::xs,o=>dV I w L b sz x o∧bI I w L b sz xs (o+sz)
def dV (I:Nat→Prop) (w:World) (L b sz:Nat):AV→Nat→Prop
 | .agg l,o=>l.length=sz∧aX I w L b l o
 | .bool t,o=>sz=1∧w.cell? ⟨b,o,none⟩=some (.bool t)
 | .int k n,o=>sz=1∧w.cell? ⟨b,o,none⟩=some (.int k n)
 | .str s,o=>sz=1∧w.cell? ⟨b,o,none⟩=some (.string s)
 | .sl l,o=>sz=1∧∃v,w.cell? ⟨b,o,none⟩=some v∧QH I L l.length (fun b sz o=>bI I w L b sz l o) v
 | .any,o=>sz=1∧∃v,w.cell? ⟨b,o,none⟩=some v∧Sc v
def aX (I:Nat→Prop) (w:World) (L b:Nat):List AV→Nat→Prop
 |[],_=>True
 |c::cs,o=>(∃v,w.cell? ⟨b,o,none⟩=some v∧aD I w L c v)∧aX I w L b cs (o+1)
end
theorem jh {I:Nat→Prop} {w:World} {L b sz o:Nat} {x:AV}:dV I w L b sz x o↔x.cells.length=sz∧aX I w L b x.cells o:=by
 cases x<;>simp [dV,aX,aD,AV.cells,eq_comm]
theorem QH.mono {I I':Nat→Prop} {L len:Nat} {E E':Nat→Nat→Nat→Prop} {v:Value} (hI:∀b,I b→I' b) (hE:∀b sz o,I b→E b sz o→E' b sz o) (h:QH I L len E v):QH I' L len E' v:=by
 obtain⟨a,cap,hv,h1,h2,h3⟩:=h
 refine⟨a,cap,hv,h1,h2,h3.imp id ?_⟩
 rintro⟨b,o,sz,ha,hb,he⟩
 exact⟨b,o,sz,ha,hI b hb,hE b sz o hb he⟩
section
variable {I I':Nat→Prop} {w w':World} {L:Nat} (hI:∀b,I b→I' b) (hw:∀b o,I b→w'.cell? ⟨b,o,none⟩=w.cell? ⟨b,o,none⟩)
include hI hw
mutual
theorem aD.mono:∀(a:AV) (v:Value),aD I w L a v→aD I' w' L a v
 | .bool _,_,h=>by simpa [aD] using h
 | .int _ _,_,h=>by simpa [aD] using h
 | .str _,_,h=>by simpa [aD] using h
 | .any,_,h=>by simpa [aD] using h
 | .sl l,v,h=>by
  simp only [aD] at h ⊢
  exact h.mono hI (fun b sz o hb he=>bI.mono b sz (fun o=>hw b o hb) l o he)
 | .agg _,_,h=>by simp [aD] at h
theorem bI.mono (b sz:Nat) (hb:∀o,w'.cell? ⟨b,o,none⟩=w.cell? ⟨b,o,none⟩):∀(l:List AV) (o:Nat),bI I w L b sz l o→bI I' w' L b sz l o
 |[],_,_=>by simp [bI]
 |x::xs,o,h=>by
  simp only [bI] at h ⊢
  exact⟨dV.mono b sz hb x o h.1,bI.mono b sz hb xs (o+sz) h.2⟩
theorem dV.mono (b sz:Nat) (hb:∀o,w'.cell? ⟨b,o,none⟩=w.cell? ⟨b,o,none⟩):∀(x:AV) (o:Nat),dV I w L b sz x o→dV I' w' L b sz x o
 | .agg l,o,h=>by simp only [dV] at h ⊢;exact⟨h.1,aX.mono b hb l o h.2⟩
 | .bool _,o,h=>by simp only [dV] at h ⊢;rw [hb o];exact h
 | .int _ _,o,h=>by simp only [dV] at h ⊢;rw [hb o];exact h
 | .str _,o,h=>by simp only [dV] at h ⊢;rw [hb o];exact h
 | .any,o,h=>by simp only [dV] at h ⊢;rw [hb o];exact h
 | .sl l,o,h=>by
  simp only [dV] at h ⊢
  rw [hb o]
  obtain⟨h1,v,h2,h3⟩:=h
  exact⟨h1,v,h2,h3.mono hI (fun b sz o hb he=>bI.mono b sz (fun o=>hw b o hb) l o he)⟩
theorem aX.mono (b:Nat) (hb:∀o,w'.cell? ⟨b,o,none⟩=w.cell? ⟨b,o,none⟩):∀(l:List AV) (o:Nat),aX I w L b l o→aX I' w' L b l o
 |[],_,_=>by simp [aX]
 |c::cs,o,h=>by
  simp only [aX] at h ⊢
  rw [hb o]
  obtain⟨⟨v,h1,h2⟩,h3⟩:=h
  exact⟨⟨v,h1,aD.mono c v h2⟩,aX.mono b hb cs (o+1) h3⟩
end
end
def Turned (I:Nat→Prop) (w w':World):Prop:=∀b o v,I b→w.cell? ⟨b,o,none⟩=some v→∃v',w'.cell? ⟨b,o,none⟩=some v'∧(v'=v∨(Sc v∧Sc v'))
theorem Turned.refl (I:Nat→Prop) (w:World):Turned I w w:=fun _ _ v _ h=>⟨v,h,.inl rfl⟩
theorem Turned.same {I:Nat→Prop} {w w':World} (h:∀b o,I b→w'.cell? ⟨b,o,none⟩=w.cell? ⟨b,o,none⟩):Turned I w w':=fun b o v hb hv=>⟨v,by rw [h b o hb];exact hv,.inl rfl⟩
theorem Turned.trans {I:Nat→Prop} {w w' w'':World} (h:Turned I w w') (k:Turned I w' w''):Turned I w w'':=by
 intro b o v hb hv
 obtain⟨v1,h1,h2⟩:=h b o v hb hv
 obtain⟨v2,h3,h4⟩:=k b o v1 hb h1
 refine⟨v2,h3,?_⟩
 rcases h2 with rfl|⟨s1,s2⟩
 ·exact h4
 ·rcases h4 with rfl|⟨s3,s4⟩
  ·exact .inr ⟨s1,s2⟩
  ·exact .inr ⟨s1,s4⟩
section
variable {I I':Nat→Prop} {w w':World} {L:Nat} (hI:∀b,I b→I' b) (hw:Turned I w w')
include hI hw
mutual
theorem aD.turn:∀(a:AV) (v:Value),a.md true=true→aD I w L a v→aD I' w' L a v
 | .bool _,_,hm,_=>by simp [AV.md] at hm
 | .int _ _,_,hm,_=>by simp [AV.md] at hm
 | .str _,_,hm,_=>by simp [AV.md] at hm
 | .sl l,v,hm,h=>by
  simp only [aD] at h ⊢
  simp only [AV.md] at hm
  exact h.mono hI (fun b sz o hb he=>bI.turn b sz hb l o hm he)
 | .any,_,_,h=>by simpa [aD] using h
 | .agg _,_,_,h=>by simp [aD] at h
theorem bI.turn (b sz:Nat) (hb:I b):∀(l:List AV) (o:Nat),AV.mds true l=true→bI I w L b sz l o→bI I' w' L b sz l o
 |[],_,_,_=>by simp [bI]
 |x::xs,o,hm,h=>by
  simp only [bI] at h ⊢
  simp only [AV.mds,Bool.and_eq_true] at hm
  exact⟨dV.turn b sz hb x o hm.1 h.1,bI.turn b sz hb xs (o+sz) hm.2 h.2⟩
theorem dV.turn (b sz:Nat) (hb:I b):∀(x:AV) (o:Nat),x.md true=true→dV I w L b sz x o→dV I' w' L b sz x o
 | .agg l,o,hm,h=>by simp only [dV] at h ⊢;simp only [AV.md] at hm;exact⟨h.1,aX.turn b hb l o hm h.2⟩
 | .bool _,_,hm,_=>by simp [AV.md] at hm
 | .int _ _,_,hm,_=>by simp [AV.md] at hm
 | .str _,_,hm,_=>by simp [AV.md] at hm
 | .any,o,_,h=>by
  simp only [dV] at h ⊢
  obtain⟨h1,v,h2,h3⟩:=h
  obtain⟨v',h4,h5⟩:=hw b o v hb h2
  refine⟨h1,v',h4,?_⟩
  rcases h5 with rfl|h5
  ·exact h3
  ·exact h5.2
 | .sl l,o,hm,h=>by
  simp only [dV] at h ⊢
  simp only [AV.md] at hm
  obtain⟨h1,v,h2,h3⟩:=h
  obtain⟨v',h4,h5⟩:=hw b o v hb h2
  refine⟨h1,v',h4,?_⟩
  rcases h5 with rfl|h5
  ·exact h3.mono hI (fun b sz o hb he=>bI.turn b sz hb l o hm he)
  ·obtain⟨a,cap,rfl,_⟩:=h3
   exact h5.1.elim
theorem aX.turn (b:Nat) (hb:I b):∀(l:List AV) (o:Nat),AV.mds true l=true→aX I w L b l o→aX I' w' L b l o
 |[],_,_,_=>by simp [aX]
 |c::cs,o,hm,h=>by
  simp only [aX] at h ⊢
  simp only [AV.mds,Bool.and_eq_true] at hm
  obtain⟨⟨v,h1,h2⟩,h3⟩:=h
  obtain⟨v',h4,h5⟩:=hw b o v hb h1
  refine⟨⟨v',h4,?_⟩,aX.turn b hb cs (o+1) hm.2 h3⟩
  rcases h5 with rfl|h5
  ·exact aD.turn c v' hm.1 h2
  ·cases c with
   |sl l=>simp only [aD] at h2;obtain⟨a,cap,rfl,_⟩:=h2;exact h5.1.elim
   |any=>exact h5.2
   |agg l=>simp [aD] at h2
   |_=>simp [AV.md] at hm
end
end
theorem bI.get {I:Nat→Prop} {w:World} {L b sz:Nat}:∀{l:List AV} {o k:Nat} {x:AV},bI I w L b sz l o→l[k]? =some x→dV I w L b sz x (o+k*sz)
 |[],_,_,_,_,h=>by simp at h
 |y::ys,o,0,x,h,e=>by simp at e;subst e;simp only [bI] at h;simpa using h.1
 |y::ys,o,k+1,x,h,e=>by
  simp only [bI] at h
  have:=bI.get h.2 (show ys[k]? =some x by simpa using e)
  rw [show o+(k+1)*sz=o+sz+k*sz by rw [Nat.succ_mul];omega]
  exact this
theorem aX.get {I:Nat→Prop} {w:World} {L b:Nat}:∀{l:List AV} {o k:Nat} {x:AV},aX I w L b l o→l[k]? =some x→∃v,w.cell? ⟨b,o+k,none⟩=some v∧aD I w L x v
 |[],_,_,_,_,h=>by simp at h
 |y::ys,o,0,x,h,e=>by simp at e;subst e;simp only [aX] at h;simpa using h.1
 |y::ys,o,k+1,x,h,e=>by
  simp only [aX] at h
  have:=aX.get h.2 (show ys[k]? =some x by simpa using e)
  rw [show o+(k+1)=o+1+k by omega]
  exact this
theorem aX.drop {I:Nat→Prop} {w:World} {L b:Nat}:∀{l:List AV} {o:Nat} (k:Nat),aX I w L b l o→aX I w L b (l.drop k) (o+k)
 |[],_,_,_=>by simp [aX]
 |_::_,_,0,h=>h
 |y::ys,o,k+1,h=>by
  simp only [aX] at h
  have:=aX.drop k h.2
  rw [show o+(k+1)=o+1+k by omega]
  simpa using this
theorem aX.take {I:Nat→Prop} {w:World} {L b:Nat}:∀{l:List AV} {o:Nat} (k:Nat),aX I w L b l o→aX I w L b (l.take k) o
 |[],_,_,_=>by simp [aX]
 |_::_,_,0,_=>by simp [aX]
 |y::ys,o,k+1,h=>by
  simp only [aX,List.take_succ_cons] at h ⊢
  exact⟨h.1,aX.take k h.2⟩
theorem bI.drop {I:Nat→Prop} {w:World} {L b sz:Nat}:∀{l:List AV} {o:Nat} (k:Nat),bI I w L b sz l o→bI I w L b sz (l.drop k) (o+k*sz)
 |[],_,_,_=>by simp [bI]
 |_::_,_,0,h=>by simpa using h
 |y::ys,o,k+1,h=>by
  simp only [bI] at h
  have:=bI.drop k h.2
  rw [show o+(k+1)*sz=o+sz+k*sz by rw [Nat.succ_mul];omega]
  simpa using this
theorem bI.take {I:Nat→Prop} {w:World} {L b sz:Nat}:∀{l:List AV} {o:Nat} (k:Nat),bI I w L b sz l o→bI I w L b sz (l.take k) o
 |[],_,_,_=>by simp [bI]
 |_::_,_,0,_=>by simp [bI]
 |y::ys,o,k+1,h=>by
  simp only [bI,List.take_succ_cons] at h ⊢
  exact⟨h.1,bI.take k h.2⟩
def aF (I:Nat→Prop) (w:World) (L:Nat):AV→Value→Prop
 | .agg l,v=>∃cs:List Value,v= .agg cs.toArray∧aN (aD I w L) l cs
 | .bool b,v=>v= .bool b
 | .int k n,v=>v= .int k n
 | .str s,v=>v= .string s
 | .sl l,v=>aD I w L (.sl l) v
 | .any,v=>Sc v
theorem aF.one {I:Nat→Prop} {w:World} {L:Nat} {a:AV} {v:Value} (h:aD I w L a v):aF I w L a v:=by
 cases a with
 |agg l=>simp [aD] at h
 |_=>simpa [aF,aD] using h
theorem aF.mono {I I':Nat→Prop} {w w':World} {L:Nat} (hI:∀b,I b→I' b) (hw:∀b o,I b→w'.cell? ⟨b,o,none⟩=w.cell? ⟨b,o,none⟩) {a:AV} {v:Value} (h:aF I w L a v):aF I' w' L a v:=by
 cases a with
 |agg l=>obtain⟨cs,h1,h2⟩:=h;exact⟨cs,h1,h2.mono (aD.mono hI hw)⟩
 |sl l=>exact aD.mono hI hw (.sl l) v h
 |bool b=>exact h
 |int k n=>exact h
 |str s=>exact h
 |any=>exact h
theorem aF.turn {I I':Nat→Prop} {w w':World} {L:Nat} (hI:∀b,I b→I' b) (hw:Turned I w w') {a:AV} {v:Value} (hm:a.mdv true=true) (h:aF I w L a v):aF I' w' L a v:=by
 have one:∀(x:AV) (u:Value),x.mdc true=true→aD I w L x u→aD I' w' L x u:=by
  intro x u hm h
  cases x with
  |sl l=>exact aD.turn hI hw (.sl l) u (by simpa [AV.md,AV.mdc] using hm) h
  |agg l=>simp [aD] at h
  |_=>simpa [aD] using h
 have go:∀(l:List AV) (cs:List Value),l.all (AV.mdc true)=true→aN (aD I w L) l cs→aN (aD I' w' L) l cs:=by
  intro l
  induction l with
  |nil=>intro cs _ h;cases cs<;>exact h
  |cons x l ih=>
   intro cs hm h
   cases cs with
   |nil=>exact h
   |cons u cs=>
    simp only [List.all_cons,Bool.and_eq_true] at hm
    exact⟨one x u hm.1 h.1,ih cs hm.2 h.2⟩
 cases a with
 |agg l=>obtain⟨cs,h1,h2⟩:=h;exact⟨cs,h1,go l cs (by simpa [AV.mdv] using hm) h2⟩
 |sl l=>exact one (.sl l) v (by simpa [AV.mdv] using hm) h
 |any=>exact h
 |bool b=>exact h
 |int k n=>exact h
 |str b=>exact h
theorem Ws {m:Bool} {a:AV} (h:a.md m=true):a.mdc m=true:=by cases a<;>simp_all [AV.md,AV.mdc]
theorem PS {m:Bool}:∀{l:List AV},AV.mds m l=true→l.all (AV.mdc m)=true
 |[],_=>rfl
 |x::l,h=>by simp only [AV.mds,Bool.and_eq_true] at h;simp only [List.all_cons,Bool.and_eq_true];exact⟨Ws h.1,PS h.2⟩
theorem Jj {m:Bool} {a:AV} (h:a.md m=true):a.mdv m=true:=by
 cases a with
 |agg l=>simp only [AV.md] at h;simp only [AV.mdv];exact PS h
 |sl l=>simpa [AV.md,AV.mdv,AV.mdc] using h
 |_=>rfl
theorem QI {m:Bool} {a:AV} (h:a.md m=true):AV.mds m a.cells=true:=by
 cases a<;>simp_all [AV.md,AV.mds,AV.cells]
theorem Jk {m:Bool}:∀{l:List AV} {k:Nat} {x:AV},AV.mds m l=true→l[k]? =some x→x.md m=true
 |[],_,_,_,h=>by simp at h
 |y::_,0,_,h,e=>by simp only [AV.mds,Bool.and_eq_true] at h;simp at e;subst e;exact h.1
 |_::l,k+1,_,h,e=>by simp only [AV.mds,Bool.and_eq_true] at h;exact Jk h.2 (by simpa using e)
theorem LC {m:Bool}:∀{l:List AV} (k:Nat),AV.mds m l=true→AV.mds m (l.take k)=true
 |[],_,_=>by simp [AV.mds]
 |_::_,0,_=>by simp [AV.mds]
 |_::l,k+1,h=>by simp only [AV.mds,Bool.and_eq_true,List.take_succ_cons] at h ⊢;exact⟨h.1,LC k h.2⟩
theorem LD {m:Bool}:∀{l:List AV} (k:Nat),AV.mds m l=true→AV.mds m (l.drop k)=true
 |[],_,_=>by simp [AV.mds]
 |_::_,0,h=>h
 |_::l,k+1,h=>by simp only [AV.mds,Bool.and_eq_true] at h;simpa using LD k h.2
def aZ (I:Nat→Prop) (w:World) (L sz:Nat):List AV→List Value→Prop
 |[],xs=>xs= []
 |x::l,xs=>x.cells.length=sz∧∃ys zs,xs=ys++zs∧aN (aD I w L) x.cells ys∧aZ I w L sz l zs
theorem aZ.mono {I I':Nat→Prop} {w w':World} {L sz:Nat} (hI:∀b,I b→I' b) (hw:∀b o,I b→w'.cell? ⟨b,o,none⟩=w.cell? ⟨b,o,none⟩):
  ∀{l:List AV} {xs:List Value},aZ I w L sz l xs→aZ I' w' L sz l xs
 |[],_,h=>h
 |_::_,_,⟨h0,ys,zs,h1,h2,h3⟩=>⟨h0,ys,zs,h1,h2.mono (aD.mono hI hw),aZ.mono hI hw h3⟩
theorem aZ.length {I:Nat→Prop} {w:World} {L sz:Nat}:∀{l:List AV} {xs:List Value},aZ I w L sz l xs→xs.length=l.length*sz
 |[],_,h=>by simp only [aZ] at h;simp [h]
 |x::l,_,⟨h0,ys,zs,h1,h2,h3⟩=>by
  subst h1
  rw [List.length_append, ← h2.length,h0,aZ.length h3,List.length_cons,Nat.succ_mul];omega
theorem aZ.append {I:Nat→Prop} {w:World} {L sz:Nat}:∀{l m:List AV} {xs ys:List Value},aZ I w L sz l xs→aZ I w L sz m ys→aZ I w L sz (l++m) (xs++ys)
 |[],m,_,ys,h,h'=>by simp only [aZ] at h;simpa [h] using h'
 |x::l,m,_,ys,⟨h0,as,bs,h1,h2,h3⟩,h'=>by
  subst h1
  exact⟨h0,as,bs++ys,by simp,h2,aZ.append h3 h'⟩
theorem aZ.lies {I:Nat→Prop} {w:World} {L sz b:Nat}:∀{l:List AV} {xs:List Value} {o:Nat},aZ I w L sz l xs→(∀j u,xs[j]? =some u→w.cell? ⟨b,o+j,none⟩=some u)→bI I w L b sz l o
 |[],_,_,_,_=>by simp [bI]
 |x::l,_,o,⟨h0,ys,zs,h1,h2,h3⟩,hc=>by
  subst h1
  simp only [bI]
  have hlen:ys.length=sz:=by rw [← h2.length,h0]
  refine⟨jh.2 ⟨h0,?_⟩,aZ.lies h3 fun j u hu=>?_⟩
  ·have hc':∀j u,ys[j]? =some u→w.cell? ⟨b,o+j,none⟩=some u:=fun j u hu=>hc j u (by rw [List.getElem?_append_left];exact hu;exact (List.getElem?_eq_some_iff.1 hu).1)
   clear hc h0 hlen
   generalize x.cells=cs at h2
   clear x
   induction cs generalizing ys o with
   |nil=>simp [aX]
   |cons c cs ih=>
    cases ys with
    |nil=>exact h2.elim
    |cons y ys=>
     simp only [aX]
     refine⟨⟨y,by simpa using hc' 0 y rfl,h2.1⟩,ih _ _ (fun j u hu=>?_) h2.2⟩
     have:=hc' (j+1) u (by simpa using hu)
     rwa [show o+(j+1)=o+1+j by omega] at this
  ·have:=hc (sz+j) u (by rw [List.getElem?_append_right (by omega)];simpa [hlen] using hu)
   rwa [show o+(sz+j)=o+sz+j by omega] at this
theorem aZ.get {I:Nat→Prop} {w:World} {L sz:Nat}:∀{l:List AV} {xs:List Value} {k:Nat} {x:AV},aZ I w L sz l xs→l[k]? =some x→
  x.cells.length=sz∧aN (aD I w L) x.cells ((xs.drop (k*sz)).take sz)
 |[],_,_,_,_,h=>by simp at h
 |y::l,_,0,x,⟨h0,ys,zs,h1,h2,h3⟩,e=>by
  simp at e;subst e;subst h1
  have hlen:ys.length=sz:=by rw [← h2.length,h0]
  refine⟨h0,?_⟩
  simpa [← hlen] using h2
 |y::l,_,k+1,x,⟨h0,ys,zs,h1,h2,h3⟩,e=>by
  subst h1
  have hlen:ys.length=sz:=by rw [← h2.length,h0]
  have:=aZ.get h3 (show l[k]? =some x by simpa using e)
  refine⟨this.1,?_⟩
  rw [show (k+1)*sz=ys.length+k*sz by rw [Nat.succ_mul,hlen];omega, ← List.drop_drop,List.drop_left]
  exact this.2
theorem aX.all2 {I:Nat→Prop} {w:World} {L b:Nat}:∀{l:List AV} {o:Nat},aX I w L b l o→∃vs,aN (aD I w L) l vs∧∀j u,vs[j]? =some u→w.cell? ⟨b,o+j,none⟩=some u
 |[],_,_=>⟨[],trivial,by simp⟩
 |c::cs,o,h=>by
  simp only [aX] at h
  obtain⟨⟨v,h1,h2⟩,h3⟩:=h
  obtain⟨vs,h4,h5⟩:=aX.all2 h3
  refine⟨v::vs,⟨h2,h4⟩,fun j u hu=>?_⟩
  cases j with
  |zero=>simp at hu;subst hu;simpa using h1
  |succ j=>
   have:=h5 j u (by simpa using hu)
   rwa [show o+(j+1)=o+1+j by omega]
theorem bI.row {I:Nat→Prop} {w:World} {L b sz:Nat}:∀{l:List AV} {o:Nat},bI I w L b sz l o→∃xs,aZ I w L sz l xs∧∀j u,xs[j]? =some u→w.cell? ⟨b,o+j,none⟩=some u
 |[],_,_=>⟨[],rfl,by simp⟩
 |x::l,o,h=>by
  simp only [bI] at h
  obtain⟨h0,hx⟩:=jh.1 h.1
  obtain⟨vs,h1,h2⟩:=hx.all2
  obtain⟨xs,h3,h4⟩:=bI.row h.2
  have hlen:vs.length=sz:=by rw [← h1.length,h0]
  refine⟨vs++xs,⟨h0,vs,xs,rfl,h1,h3⟩,fun j u hu=>?_⟩
  by_cases hj:j < vs.length
  ·rw [List.getElem?_append_left hj] at hu
   exact h2 j u hu
  ·rw [List.getElem?_append_right (by omega)] at hu
   have:=h4 _ u hu
   rwa [show o+sz+(j - vs.length)=o+j by omega] at this
theorem aD.oneCell {I:Nat→Prop} {w:World} {L:Nat} {a:AV} {v:Value} (h:aD I w L a v):v.oneCell'=true:=by
 cases a with
 |agg l=>simp [aD] at h
 |sl l=>simp only [aD] at h;obtain⟨x,c,rfl,_⟩:=h;rfl
 |bool b=>simp only [aD] at h;subst h;rfl
 |int k n=>simp only [aD] at h;subst h;rfl
 |str s=>simp only [aD] at h;subst h;rfl
 |any=>simp only [aD] at h;cases v<;>first|rfl|exact h.elim
mutual
def kU (w:World):AV→Value→List Nat→Prop
 | .sl l,v,bs=>(l= []∧bs= [])∨∃b o sz len cap bs',v= .slice (some ⟨b,o,none⟩) len cap∧bs=b::bs'∧nY w b sz l o bs'
 |_,_,bs=>bs= []
def nY (w:World) (b sz:Nat):List AV→Nat→List Nat→Prop
 |[],_,bs=>bs= []
 |x::xs,o,bs=>∃b1 b2,bs=b1++b2∧kK w b sz x o b1∧nY w b sz xs (o+sz) b2
def kK (w:World) (b sz:Nat):AV→Nat→List Nat→Prop
 | .agg l,o,bs=>l.length=sz∧sj w b l o bs
 | .sl l,o,bs=>sz=1∧∃v,w.cell? ⟨b,o,none⟩=some v∧((l= []∧bs= [])∨∃b' o' sz' len cap bs',v= .slice (some ⟨b',o',none⟩) len cap∧bs=b'::bs'∧nY w b' sz' l o' bs')
 |_,_,bs=>sz=1∧bs= []
def sj (w:World) (b:Nat):List AV→Nat→List Nat→Prop
 |[],_,bs=>bs= []
 |c::cs,o,bs=>∃b1 b2,bs=b1++b2∧(∃v,w.cell? ⟨b,o,none⟩=some v∧kU w c v b1)∧sj w b cs (o+1) b2
end
def iL (w:World):List AV→List Value→List Nat→Prop
 |[],vs,bs=>vs= []∧bs= []
 |x::xs,vs,bs=>∃u us b1 b2,vs=u::us∧bs=b1++b2∧kU w x u b1∧iL w xs us b2
def bV (w:World) (sz:Nat):List AV→List Value→List Nat→Prop
 |[],xs,bs=>xs= []∧bs= []
 |x::l,xs,bs=>x.cells.length=sz∧∃ys zs b1 b2,xs=ys++zs∧bs=b1++b2∧iL w x.cells ys b1∧bV w sz l zs b2
theorem RS {w:World} {b sz o:Nat} {x:AV} {bs:List Nat} (hc:∀k,k < sz→∃v,w.cell? ⟨b,o+k,none⟩=some v):kK w b sz x o bs↔x.cells.length=sz∧sj w b x.cells o bs:=by
 cases x with
 |agg l=>simp [kK,AV.cells]
 |sl l=>
  simp only [kK,AV.cells,List.length_cons,List.length_nil,sj,kU]
  constructor
  ·rintro⟨rfl,v,h1,h2⟩
   exact⟨rfl,bs,[],by simp,⟨v,h1,h2⟩,rfl⟩
  ·rintro⟨rfl,b1,b2,rfl,⟨v,h1,h2⟩,rfl⟩
   exact⟨rfl,v,h1,by simpa using h2⟩
 |_=>
  simp only [kK,AV.cells,List.length_cons,List.length_nil,sj,kU]
  constructor
  ·rintro⟨rfl,rfl⟩
   obtain⟨v,hv⟩:=hc 0 (by omega)
   exact⟨rfl,[],[],rfl,⟨v,by simpa using hv,rfl⟩,rfl⟩
  ·rintro⟨rfl,b1,b2,rfl,⟨v,_,rfl⟩,rfl⟩
   exact⟨rfl,rfl⟩
section
variable {w w':World}
mutual
theorem kU.mono:∀(a:AV) (v:Value) (bs:List Nat),(∀b∈bs,∀o,w'.cell? ⟨b,o,none⟩=w.cell? ⟨b,o,none⟩)→kU w a v bs→kU w' a v bs
 | .sl l,v,bs,hw,h=>by
  simp only [kU] at h ⊢
  refine h.imp id ?_
  rintro⟨b,o,sz,len,cap,bs',rfl,rfl,h3⟩
  exact⟨b,o,sz,len,cap,bs',rfl,rfl,nY.mono b sz l o bs' (hw b (by simp)) (fun k hk=>hw k (by simp [hk])) h3⟩
 | .bool _,_,_,_,h=>by simpa [kU] using h
 | .int _ _,_,_,_,h=>by simpa [kU] using h
 | .str _,_,_,_,h=>by simpa [kU] using h
 | .any,_,_,_,h=>by simpa [kU] using h
 | .agg _,_,_,_,h=>by simpa [kU] using h
theorem nY.mono (b sz:Nat):∀(l:List AV) (o:Nat) (bs:List Nat),(∀o,w'.cell? ⟨b,o,none⟩=w.cell? ⟨b,o,none⟩)→(∀b∈bs,∀o,w'.cell? ⟨b,o,none⟩=w.cell? ⟨b,o,none⟩)→nY w b sz l o bs→nY w' b sz l o bs
 |[],_,_,_,_,h=>by simpa [nY] using h
 |x::xs,o,bs,hb,hw,h=>by
  simp only [nY] at h ⊢
  obtain⟨b1,b2,rfl,h1,h2⟩:=h
  exact⟨b1,b2,rfl,kK.mono b sz x o b1 hb (fun k hk=>hw k (by simp [hk])) h1,nY.mono b sz xs (o+sz) b2 hb (fun k hk=>hw k (by simp [hk])) h2⟩
theorem kK.mono (b sz:Nat):∀(x:AV) (o:Nat) (bs:List Nat),(∀o,w'.cell? ⟨b,o,none⟩=w.cell? ⟨b,o,none⟩)→(∀b∈bs,∀o,w'.cell? ⟨b,o,none⟩=w.cell? ⟨b,o,none⟩)→kK w b sz x o bs→kK w' b sz x o bs
 | .agg l,o,bs,hb,hw,h=>by simp only [kK] at h ⊢;exact⟨h.1,sj.mono b l o bs hb hw h.2⟩
 | .sl l,o,bs,hb,hw,h=>by
  simp only [kK] at h ⊢
  obtain⟨h1,v,h2,h3⟩:=h
  refine⟨h1,v,by rw [hb o];exact h2,h3.imp id ?_⟩
  rintro⟨b',o',sz',len,cap,bs',rfl,rfl,h4⟩
  exact⟨b',o',sz',len,cap,bs',rfl,rfl,nY.mono b' sz' l o' bs' (hw b' (by simp)) (fun k hk=>hw k (by simp [hk])) h4⟩
 | .bool _,_,_,_,_,h=>by simpa [kK] using h
 | .int _ _,_,_,_,_,h=>by simpa [kK] using h
 | .str _,_,_,_,_,h=>by simpa [kK] using h
 | .any,_,_,_,_,h=>by simpa [kK] using h
theorem sj.mono (b:Nat):∀(l:List AV) (o:Nat) (bs:List Nat),(∀o,w'.cell? ⟨b,o,none⟩=w.cell? ⟨b,o,none⟩)→(∀b∈bs,∀o,w'.cell? ⟨b,o,none⟩=w.cell? ⟨b,o,none⟩)→sj w b l o bs→sj w' b l o bs
 |[],_,_,_,_,h=>by simpa [sj] using h
 |c::cs,o,bs,hb,hw,h=>by
  simp only [sj] at h ⊢
  obtain⟨b1,b2,rfl,⟨v,h1,h2⟩,h3⟩:=h
  exact⟨b1,b2,rfl,⟨v,by rw [hb o];exact h1,kU.mono c v b1 (fun k hk=>hw k (by simp [hk])) h2⟩,sj.mono b cs (o+1) b2 hb (fun k hk=>hw k (by simp [hk])) h3⟩
end
theorem iL.mono:∀{l:List AV} {vs:List Value} {bs:List Nat},(∀b∈bs,∀o,w'.cell? ⟨b,o,none⟩=w.cell? ⟨b,o,none⟩)→iL w l vs bs→iL w' l vs bs
 |[],_,_,_,h=>h
 |x::xs,_,_,hw,⟨u,us,b1,b2,e1,e2,h1,h2⟩=>by
  subst e2
  exact⟨u,us,b1,b2,e1,rfl,kU.mono x u b1 (fun k hk=>hw k (by simp [hk])) h1,iL.mono (fun k hk=>hw k (by simp [hk])) h2⟩
theorem bV.mono {sz:Nat}:∀{l:List AV} {xs:List Value} {bs:List Nat},(∀b∈bs,∀o,w'.cell? ⟨b,o,none⟩=w.cell? ⟨b,o,none⟩)→bV w sz l xs bs→bV w' sz l xs bs
 |[],_,_,_,h=>h
 |x::l,_,_,hw,⟨h0,ys,zs,b1,b2,e1,e2,h1,h2⟩=>by
  subst e2
  exact⟨h0,ys,zs,b1,b2,e1,rfl,iL.mono (fun k hk=>hw k (by simp [hk])) h1,bV.mono (fun k hk=>hw k (by simp [hk])) h2⟩
end
theorem iL.length {w:World}:∀{l:List AV} {vs:List Value} {bs:List Nat},iL w l vs bs→vs.length=l.length
 |[],_,_,h=>by simp [h.1]
 |_::_,_,_,⟨u,us,b1,b2,e1,_,_,h⟩=>by subst e1;simp [iL.length h]
theorem iL.append {w:World}:∀{l m:List AV} {vs us:List Value} {b1 b2:List Nat},iL w l vs b1→iL w m us b2→iL w (l++m) (vs++us) (b1++b2)
 |[],_,_,_,_,_,h,k=>by obtain⟨rfl,rfl⟩:=h;simpa using k
 |x::l,m,_,us,_,b2,⟨u,us',c1,c2,e1,e2,h1,h2⟩,k=>by
  subst e1;subst e2
  exact⟨u,us'++us,c1,c2++b2,by simp,by simp,h1,iL.append h2 k⟩
theorem bV.append {w:World} {sz:Nat}:∀{l m:List AV} {xs ys:List Value} {b1 b2:List Nat},bV w sz l xs b1→bV w sz m ys b2→bV w sz (l++m) (xs++ys) (b1++b2)
 |[],_,_,_,_,_,h,k=>by obtain⟨rfl,rfl⟩:=h;simpa using k
 |x::l,m,_,ys,_,b2,⟨h0,as,cs,c1,c2,e1,e2,h1,h2⟩,k=>by
  subst e1;subst e2
  exact⟨h0,as,cs++ys,c1,c2++b2,by simp,by simp,h1,bV.append h2 k⟩
theorem Hz {w:World} {a:AV} {v:Value} (h:a.flat=true):kU w a v []:=by
 cases a<;>simp_all [kU,AV.flat]
theorem wu {w:World}:∀{l:List AV} {vs:List Value},AV.qN l=true→vs.length=l.length→iL w l vs []
 |[],vs,_,h=>⟨List.eq_nil_of_length_eq_zero (by simpa using h),rfl⟩
 |x::l,[],_,h=>by simp at h
 |x::l,v::vs,h,k=>by
  simp only [AV.qN,Bool.and_eq_true] at h
  exact⟨v,vs,[],[],rfl,rfl,Hz h.1,wu h.2 (by simpa using k)⟩
theorem oM:∀{z:List ZC} {l:List AV},BU z=true→bF z l=true→AV.qN l=true
 |[],[],_,_=>rfl
 |[],_::_,_,h=>by simp [bF] at h
 |_::_,[],_,h=>by simp [bF] at h
 |z::zs,x::xs,h,k=>by
  simp only [bF,Bool.and_eq_true] at k
  simp only [AV.qN,Bool.and_eq_true]
  have hz:BU zs=true:=by cases z<;>simp_all [BU]
  refine⟨?_,oM hz k.2⟩
  cases z<;>cases x<;>simp_all [BU,ZC.fit,AV.flat]
theorem kW:∀{z:List ZC} {l:List AV},bF z l=true→l.length=z.length
 |[],[],_=>rfl
 |[],_::_,h=>by simp [bF] at h
 |_::_,[],h=>by simp [bF] at h
 |z::zs,x::xs,h=>by simp only [bF,Bool.and_eq_true] at h;simp [kW h.2]
theorem kX {I:Nat→Prop} {w:World} {L sz:Nat} {z:List ZC} (hz:BU z=true):∀{l:List AV} {xs:List Value},(∀x∈l,bF z x.cells=true)→aZ I w L sz l xs→bV w sz l xs []
 |[],_,_,h=>⟨h,rfl⟩
 |x::l,_,hf,⟨h0,ys,zs,e,h1,h2⟩=>by
  subst e
  exact⟨h0,ys,zs,[],[],rfl,rfl,wu (oM hz (hf x (by simp))) h1.length.symm,kX hz (fun y hy=>hf y (by simp [hy])) h2⟩
theorem iL.lies {w:World} {b:Nat}:∀{l:List AV} {vs:List Value} {o:Nat} {bs:List Nat},iL w l vs bs→(∀j u,vs[j]? =some u→w.cell? ⟨b,o+j,none⟩=some u)→sj w b l o bs
 |[],_,_,_,h,_=>by simp only [sj];exact h.2
 |x::xs,_,o,_,⟨u,us,b1,b2,e1,e2,h1,h2⟩,hc=>by
  subst e1;subst e2
  simp only [sj]
  refine⟨b1,b2,rfl,⟨u,by simpa using hc 0 u rfl,h1⟩,iL.lies h2 fun j v hj=>?_⟩
  have:=hc (j+1) v (by simpa using hj)
  rwa [show o+(j+1)=o+1+j by omega] at this
theorem bV.lies {w:World} {sz b:Nat}:∀{l:List AV} {xs:List Value} {o:Nat} {bs:List Nat},bV w sz l xs bs→(∀j u,xs[j]? =some u→w.cell? ⟨b,o+j,none⟩=some u)→nY w b sz l o bs
 |[],_,_,_,h,_=>by simp only [nY];exact h.2
 |x::l,_,o,_,⟨h0,ys,zs,b1,b2,e1,e2,h1,h2⟩,hc=>by
  subst e1;subst e2
  simp only [nY]
  have hlen:ys.length=sz:=by rw [h1.length,h0]
  have hy:∀j u,ys[j]? =some u→w.cell? ⟨b,o+j,none⟩=some u:=fun j u hu=>hc j u (by rw [List.getElem?_append_left];exact hu;exact (List.getElem?_eq_some_iff.1 hu).1)
  refine⟨b1,b2,rfl,(RS fun k hk=>?_).2 ⟨h0,h1.lies hy⟩,bV.lies h2 fun j u hu=>?_⟩
  ·exact⟨ys[k]'(by omega),hy k _ (by simp)⟩
  ·have:=hc (sz+j) u (by rw [List.getElem?_append_right (by omega)];simpa [hlen] using hu)
   rwa [show o+(sz+j)=o+sz+j by omega] at this
theorem iL.get {w:World}:∀{l:List AV} {vs:List Value} {bs:List Nat} {k:Nat} {x:AV} {u:Value},iL w l vs bs→l[k]? =some x→vs[k]? =some u→∃b1 b2 b3,bs=b1++b2++b3∧iL w (l.take k) (vs.take k) b1∧kU w x u b2∧iL w (l.drop (k+1)) (vs.drop (k+1)) b3
 |[],_,_,_,_,_,_,h,_=>by simp at h
 |y::l,_,_,0,x,u,⟨v,us,b1,b2,e1,e2,h1,h2⟩,hx,hu=>by
  subst e1;subst e2
  simp at hx hu;subst hx;subst hu
  exact⟨[],b1,b2,by simp,⟨rfl,rfl⟩,h1,by simpa using h2⟩
 |y::l,_,_,k+1,x,u,⟨v,us,b1,b2,e1,e2,h1,h2⟩,hx,hu=>by
  subst e1;subst e2
  obtain⟨c1,c2,c3,rfl,g1,g2,g3⟩:=iL.get h2 (by simpa using hx) (by simpa using hu)
  exact⟨b1++c1,c2,c3,by simp,⟨v,_,b1,c1,rfl,rfl,h1,g1⟩,g2,by simpa using g3⟩
theorem iL.split {w:World}:∀(k:Nat) {l:List AV} {vs:List Value} {bs:List Nat},iL w l vs bs→∃b1 b2,bs=b1++b2∧iL w (l.take k) (vs.take k) b1∧iL w (l.drop k) (vs.drop k) b2
 |0,l,vs,bs,h=>⟨[],bs,rfl,⟨by simp,rfl⟩,by simpa using h⟩
 |k+1,[],_,_,h=>by obtain⟨rfl,rfl⟩:=h;exact⟨[],[],rfl,⟨by simp,rfl⟩,by simpa using ⟨rfl,rfl⟩⟩
 |k+1,y::l,_,_,⟨v,us,b1,b2,e1,e2,h1,h2⟩=>by
  subst e1;subst e2
  obtain⟨c1,c2,rfl,g1,g2⟩:=iL.split k h2
  exact⟨b1++c1,c2,by simp,⟨v,_,b1,c1,rfl,rfl,h1,g1⟩,by simpa using g2⟩
theorem bV.split {w:World} {sz:Nat}:∀(k:Nat) {l:List AV} {xs:List Value} {bs:List Nat},bV w sz l xs bs→∃b1 b2,bs=b1++b2∧bV w sz (l.take k) (xs.take (k*sz)) b1∧bV w sz (l.drop k) (xs.drop (k*sz)) b2
 |0,l,xs,bs,h=>⟨[],bs,rfl,⟨by simp,rfl⟩,by simpa using h⟩
 |k+1,[],_,_,h=>by obtain⟨rfl,rfl⟩:=h;exact⟨[],[],rfl,⟨by simp,rfl⟩,by simpa using ⟨rfl,rfl⟩⟩
 |k+1,x::l,_,_,⟨h0,ys,zs,b1,b2,e1,e2,h1,h2⟩=>by
  subst e1;subst e2
  have hlen:ys.length=sz:=by rw [h1.length,h0]
  obtain⟨c1,c2,rfl,g1,g2⟩:=bV.split k h2
  refine⟨b1++c1,c2,by simp,⟨h0,ys,zs.take (k*sz),b1,c1,?_,rfl,h1,g1⟩,?_⟩
  ·rw [show (k+1)*sz=ys.length+k*sz by rw [Nat.succ_mul,hlen];omega,List.take_length_add_append]
  ·rw [show (k+1)*sz=ys.length+k*sz by rw [Nat.succ_mul,hlen];omega,List.drop_length_add_append,List.drop_succ_cons];exact g2
end Go.Proofs.YtpfgedlimdeffaaGreat.Abs
namespace Go.Proofs.YtpfgedlimdeffaaGreat.Abs
open Go.RowKit
structure Cx where
 β:Nat→Option Nat
 ω:Nat→Option Value
 I:Nat→Prop
 J:Nat→Prop
 O:Nat→Prop
 mt:Bool
 base:Nat
 who:Nat→Option (Bool×Nat)
 lin:Nat→Option Nat
 As:Nat→Nat→Option Value
def ZC.val:ZC→Value
 | .bool=>.bool false
 | .int k=>.int k 0
 | .str=>.string ⟨#[]⟩
 | .aj=>.slice none 0 0
def Oo:TypeDesc→Bool
 | .struct _| .array _ _=>false
 |_=>true
structure fT (P:Program) (T:Nat→Ty) (ty:Ty) (t:Nat):Prop where
 info:∃i z,P.info? t=some i∧i.size=ty.size∧i.bytes=ty.bytes∧i.zero=some z∧z.cells.toList=ty.zero.map ZC.val
 pos:0 < ty.size
 one:ty.agg=false→ty.size=1
 yX:ty.zero.length=ty.size
 small:ty.bytes≤512
 YL:ty.eq=true→P.stoodInHeld t=false∧P.eqGuardType P.depth t=false∧∀f∈P.fieldsOf t,f.name≠ "_"
 und:∃d,P.underlying t=some d∧(match ty.kind with
  | .bool=>d= .bool
  | .int k=>d= .int k
  | .str=>d= .string
  | .slice E=>d= .slice E
  | .struct fs=>∃fields:Array Field,d= .struct fields∧fields.toList.map (fun f=>(f.offset,f.type))=fs∧∀p∈fs,(T p.2).good=true∧p.1+(T p.2).size≤ty.size
  | .fn=>Oo d=true
  | .other=>False)
def aW (P:Program) (T:Nat→Ty):Prop:=∀t,(T t).good=true→fT P T (T t) t
def rF (I J:Nat→Prop) (w:World) (L:Nat) (a:AV) (v:Value):Prop:=∃b o,v= .pointer (some ⟨b,o,none⟩)∧(I b∨J b)∧aX I w L b a.cells o
def fU (vs:List Value):Prop:=∀v∈vs,v.oneCell'=true
def Cx.M (c:Cx) (b:Nat):Prop:=c.O b∧c.mt=true
def eX (w:World) (b:Nat):Prop:=∀o,w.frozen? ⟨b,o,none⟩=false
theorem eX.same {w w':World} {b:Nat} (h:eX w b) (e:w'.heap[b]? =w.heap[b]?):eX w' b:=fun o=>by
 rw [World.frozen?_of_block (w:=w) (w':=w') (a:=⟨b,o,none⟩) e];exact h o
structure Turn (M:Nat→Prop) (w w':World) (B:Nat→Prop:=fun _=>False):Prop where
 os:w'.os=w.os
 tape:w'.tape=w.tape
 output:w'.output=w.output
 size:w.heap.size≤w'.heap.size
 sU:∀k,k < w.heap.size→¬ M k→¬ B k→w'.heap[k]? =w.heap[k]?
 cell:Turned M w w'
 thaw:∀b,M b→eX w b→eX w' b
 drawn:w.drawn≤w'.drawn
theorem Turn.block {M:Nat→Prop} {w w':World} (h:Turn M w w'):∀k,k < w.heap.size→¬ M k→w'.heap[k]? =w.heap[k]? :=fun k hk hm=>h.sU k hk hm id
theorem Turn.refl (M:Nat→Prop) (w:World) {B:Nat→Prop}:Turn M w w B:=⟨rfl,rfl,rfl,Nat.le_refl _,fun _ _ _ _=>rfl,Turned.refl _ _,fun _ _ h=>h,Nat.le_refl _⟩
theorem Turn.toB {M B B':Nat→Prop} {w w':World} (h:Turn M w w' B) (hB:∀b,B b→B' b):Turn M w w' B':=⟨h.os,h.tape,h.output,h.size,fun k hk hm hb=>h.sU k hk hm fun h=>hb (hB k h),h.cell,h.thaw,h.drawn⟩
theorem Turn.all {M B:Nat→Prop} {w w':World} (h:Turn M w w'):Turn M w w' B:=h.toB fun _ h=>h.elim
theorem Turn.trans {M B:Nat→Prop} {a b c:World} (h:Turn M a b B) (k:Turn M b c B):Turn M a c B:=
 ⟨k.os.trans h.os,k.tape.trans h.tape,k.output.trans h.output,Nat.le_trans h.size k.size,fun i hi hm hb=>(k.sU i (Nat.lt_of_lt_of_le hi h.size) hm hb).trans (h.sU i hi hm hb),h.cell.trans k.cell,fun b hm ht=>k.thaw b hm (h.thaw b hm ht),Nat.le_trans h.drawn k.drawn⟩
theorem Turn.keep {M B:Nat→Prop} {a b c:World} (h:Turn M a b B) (hm:∀k,M k→k < a.heap.size) (k:Below a.heap.size b c) (hd:b.drawn≤c.drawn):Turn M a c B:=
 ⟨k.os.trans h.os,k.tape.trans h.tape,k.output.trans h.output,Nat.le_trans h.size k.size,fun i hi hm hb=>(k.block i hi).trans (h.sU i hi hm hb),h.cell.trans (Turned.same fun b _ hb=>k.cell (hm b hb)),fun b hb ht=>(h.thaw b hb ht).same (k.block b (hm b hb)),Nat.le_trans h.drawn hd⟩
theorem Turn.of {M B:Nat→Prop} {w w':World} (hm:∀k,M k→k < w.heap.size) (k:Below w.heap.size w w') (hd:w.drawn≤w'.drawn):Turn M w w' B:=(Turn.refl M w).keep hm k hd
theorem Turn.quiet {O:Nat→Prop} {w w':World} (h:Turn (fun b=>O b∧false=true) w w'):Turn (fun _=>False) w w':=
 ⟨h.os,h.tape,h.output,h.size,fun k hk _ _=>h.block k hk (fun hm=>by cases hm.2),fun _ _ _ hb=>hb.elim,fun _ hb=>hb.elim,h.drawn⟩
abbrev Quiet (w w':World):Prop:=Turn (fun _=>False) w w'
theorem Turn.ofQ {M B:Nat→Prop} {w w':World} (hm:∀k,M k→k < w.heap.size) (q:Quiet w w'):Turn M w w' B:=Turn.of hm ⟨q.os,q.tape,q.output,q.size,fun k hk=>q.block k hk id⟩ q.drawn
theorem Quiet.refl (w:World):Quiet w w:=Turn.refl _ w
theorem Quiet.alloc (w:World) (o:Obj):Quiet w (w.alloc o):=Turn.of (fun _ h=>h.elim) ((Below.refl _ _).alloc (Nat.le_refl _) _) (Nat.le_refl _)
theorem Quiet.Ed {w w':World} (h:Quiet w w') (o:Obj):Quiet w (w'.alloc o):=h.trans (Quiet.alloc w' o)
theorem Turn.cell? {M:Nat→Prop} {w w':World} (h:Turn M w w') {b o:Nat} (hb:b < w.heap.size) (hm:¬ M b):w'.cell? ⟨b,o,none⟩=w.cell? ⟨b,o,none⟩:=World.cell?_of_block (h.block b hb hm)
theorem Turn.below {w w':World} (h:Turn (fun _=>False) w w'):Below w.heap.size w w':=⟨h.os,h.tape,h.output,h.size,fun k hk=>h.block k hk id⟩
section
variable (T:Nat→Ty) (c:Cx) (tok:Nat→Option Tok) (mem:Nat→Option (Nat×List SV)) (w:World) (L:Nat)
mutual
def ah:SV→Value→Prop
 | .undef,_=>True
 | .gone,v=>v=undef
 | .data a,v=>aF c.I w L a v
 | .aj,v=>v= .slice none 0 0
 | .fr l,v=>aF c.I w L (.sl l) v∧∀b,v.ownBlock=some b→c.base≤b
 | .own τ g,v=>∃t,tok τ=some t∧g≤t.gen∧(g=t.gen→c.ω τ=some v)
 | .iW τ g k off,v=>∃t,tok τ=some t∧g≤t.gen∧(g=t.gen→∃b n cap,c.ω τ=some (.slice (some ⟨b,0,none⟩) n cap)∧v= .pointer (some ⟨b,k*(T t.E).size+off,none⟩))
 | .box d g off,v=>∃g' cells,mem d=some (g',cells)∧g≤g'∧(g=g'→∃b,c.β d=some b∧v= .pointer (some ⟨b,off,none⟩))
 | .bsl d g n,v=>∃g' cells,mem d=some (g',cells)∧g≤g'∧(g=g'→∃b,c.β d=some b∧v= .slice (some ⟨b,0,none⟩) n n)
 | .ref a,v=>rF c.I c.J w L a v
 | .old a,v=>a.mdv c.mt=true∧aF c.O w L a v
 | .bQ a,v=>a.md c.mt=true∧∃b o,v= .pointer (some ⟨b,o,none⟩)∧c.O b∧aX c.O w L b a.cells o
 | .fn f caps,v=>∃vs:List Value,v= .func (.func f) #[] vs.toArray∧ak caps vs
 | .fnr f caps,v=>∃vs:List Value,v= .func (.func f) #[] vs.toArray∧aN (rF c.I c.J w L) caps vs
 | .argv i j a,v=>aF c.I w L a v∧c.As i j=some v∧v.oneCell'=true
 | .gW l,v=>∃vs:List Value,v= .agg vs.toArray∧ak l vs∧fU vs
 | .tup l,v=>∃vs:List Value,v= .tuple vs.toArray∧ak l vs
def ak:List SV→List Value→Prop
 |[],vs=>vs= []
 |x::xs,vs=>∃u us,vs=u::us∧ah x u∧ak xs us
end
end
structure Ext (L:Nat) (c:Cx) (tok:Nat→Option Tok) (mem:Nat→Option (Nat×List SV)) (w:World) (c':Cx) (sw:Nat→Option Tok) (mem':Nat→Option (Nat×List SV)) (w':World):Prop where
 hI:∀b,c.I b→c'.I b
 hJ:∀b,c.J b→c'.J b
 hmt:c'.mt=c.mt
 hbase:c'.base=c.base
 hAs:c'.As=c.As
 hO:c'.O=c.O
 hw:∀b o,c.I b∨c.J b→w'.cell? ⟨b,o,none⟩=w.cell? ⟨b,o,none⟩
 hf:c.mt=false→∀b o,c.O b→w'.cell? ⟨b,o,none⟩=w.cell? ⟨b,o,none⟩
 ht:c.mt=true→Turned c.O w w'
 QJ:∀τ t,tok τ=some t→∃t',sw τ=some t'∧t.gen≤t'.gen∧(t.gen=t'.gen→c'.ω τ=c.ω τ∧t'.E=t.E)
 hmem:∀d g cells,mem d=some (g,cells)→∃g' cells',mem' d=some (g',cells')∧g≤g'∧(g=g'→c'.β d=c.β d)
theorem Ext.hwI {L:Nat} {c:Cx} {tok:Nat→Option Tok} {mem:Nat→Option (Nat×List SV)} {w:World} {c':Cx} {sw:Nat→Option Tok} {mem':Nat→Option (Nat×List SV)} {w':World} (e:Ext L c tok mem w c' sw mem' w'):
  ∀b o,c.I b→w'.cell? ⟨b,o,none⟩=w.cell? ⟨b,o,none⟩:=fun b o h=>e.hw b o (.inl h)
theorem rF.ext {L:Nat} {I I' J J':Nat→Prop} {w w':World} (hI:∀b,I b→I' b) (hJ:∀b,J b→J' b∨I' b) (hw:∀b o,I b∨J b→w'.cell? ⟨b,o,none⟩=w.cell? ⟨b,o,none⟩) {a:AV} {v:Value} (h:rF I J w L a v):rF I' J' w' L a v:=by
 obtain⟨b,o,h1,h2,h3⟩:=h
 exact⟨b,o,h1,h2.elim (fun h=>.inl (hI b h)) (fun h=>(hJ b h).symm),aX.mono hI (fun b o h=>hw b o (.inl h)) b (fun o=>hw b o h2) _ _ h3⟩
theorem Ext.hM {L:Nat} {c:Cx} {tok:Nat→Option Tok} {mem:Nat→Option (Nat×List SV)} {w:World} {c':Cx} {sw:Nat→Option Tok} {mem':Nat→Option (Nat×List SV)} {w':World} (e:Ext L c tok mem w c' sw mem' w'):
  c'.M=c.M:=by unfold Cx.M;rw [e.hO,e.hmt]
theorem Ext.oJ {L:Nat} {c:Cx} {tok:Nat→Option Tok} {mem:Nat→Option (Nat×List SV)} {w:World} {c':Cx} {sw:Nat→Option Tok} {mem':Nat→Option (Nat×List SV)} {w':World} (e:Ext L c tok mem w c' sw mem' w')
  {a:AV} {v:Value} (hm:a.mdv c.mt=true) (h:aF c.O w L a v):aF c'.O w' L a v:=by
 cases hc:c.mt with
 |false=>exact (e.hO ▸ h.mono (fun _ h=>h) (e.hf hc))
 |true=>rw [hc] at hm;exact (e.hO ▸ h.turn (fun _ h=>h) (e.ht hc) hm)
theorem Ext.YM {L:Nat} {c:Cx} {tok:Nat→Option Tok} {mem:Nat→Option (Nat×List SV)} {w:World} {c':Cx} {sw:Nat→Option Tok} {mem':Nat→Option (Nat×List SV)} {w':World} (e:Ext L c tok mem w c' sw mem' w')
  {l:List AV} {b o:Nat} (hm:AV.mds c.mt l=true) (hb:c.O b) (h:aX c.O w L b l o):aX c'.O w' L b l o:=by
 cases hc:c.mt with
 |false=>exact (e.hO ▸ aX.mono (fun _ h=>h) (e.hf hc) b (fun o=>e.hf hc b o hb) _ _ h)
 |true=>rw [hc] at hm;exact (e.hO ▸ aX.turn (fun _ h=>h) (e.ht hc) b hb _ _ hm h)
section
variable {T:Nat→Ty} {L:Nat} {c c':Cx} {tok sw:Nat→Option Tok} {mem mem':Nat→Option (Nat×List SV)} {w w':World}
mutual
theorem ah.ext (e:Ext L c tok mem w c' sw mem' w'):∀(x:SV) (v:Value),ah T c tok mem w L x v→ah T c' sw mem' w' L x v
 | .undef,_,_=>by simp [ah]
 | .gone,_,h=>by simpa [ah] using h
 | .data a,v,h=>by simp only [ah] at h ⊢;exact h.mono e.hI e.hwI
 | .aj,v,h=>by simpa [ah] using h
 | .fr l,v,h=>by simp only [ah] at h ⊢;rw [e.hbase];exact⟨h.1.mono e.hI e.hwI,h.2⟩
 | .argv i j a,v,h=>by simp only [ah] at h ⊢;rw [e.hAs];exact⟨h.1.mono e.hI e.hwI,h.2⟩
 | .own τ g,v,h=>by
  simp only [ah] at h ⊢
  obtain⟨t,h1,h2,h3⟩:=h
  obtain⟨t',h4,h5,h6⟩:=e.QJ τ t h1
  refine⟨t',h4,by omega,fun hg=>?_⟩
  rw [(h6 (by omega)).1];exact h3 (by omega)
 | .iW τ g k off,v,h=>by
  simp only [ah] at h ⊢
  obtain⟨t,h1,h2,h3⟩:=h
  obtain⟨t',h4,h5,h6⟩:=e.QJ τ t h1
  refine⟨t',h4,by omega,fun hg=>?_⟩
  rw [(h6 (by omega)).1,(h6 (by omega)).2];exact h3 (by omega)
 | .box d g off,v,h=>by
  simp only [ah] at h ⊢
  obtain⟨g1,cells,h1,h2,h3⟩:=h
  obtain⟨g2,cells',h4,h5,h6⟩:=e.hmem d g1 cells h1
  refine⟨g2,cells',h4,by omega,fun hg=>?_⟩
  rw [h6 (by omega)];exact h3 (by omega)
 | .bsl d g n,v,h=>by
  simp only [ah] at h ⊢
  obtain⟨g1,cells,h1,h2,h3⟩:=h
  obtain⟨g2,cells',h4,h5,h6⟩:=e.hmem d g1 cells h1
  refine⟨g2,cells',h4,by omega,fun hg=>?_⟩
  rw [h6 (by omega)];exact h3 (by omega)
 | .ref a,v,h=>by simp only [ah] at h ⊢;exact h.ext e.hI (fun b h=>.inl (e.hJ b h)) e.hw
 | .old a,v,h=>by simp only [ah] at h ⊢;rw [e.hmt];exact⟨h.1,e.oJ h.1 h.2⟩
 | .bQ a,v,h=>by
  simp only [ah] at h ⊢
  obtain⟨h0,b,o,h1,h2,h3⟩:=h
  rw [e.hmt]
  exact⟨h0,b,o,h1,e.hO ▸ h2,e.YM (QI h0) h2 h3⟩
 | .fn f caps,v,h=>by
  simp only [ah] at h ⊢
  obtain⟨vs,h1,h2⟩:=h
  exact⟨vs,h1,ak.ext e caps vs h2⟩
 | .fnr f caps,v,h=>by
  simp only [ah] at h ⊢
  obtain⟨vs,h1,h2⟩:=h
  exact⟨vs,h1,h2.mono fun a u hu=>rF.ext e.hI (fun b h=>.inl (e.hJ b h)) e.hw hu⟩
 | .gW l,v,h=>by
  simp only [ah] at h ⊢
  obtain⟨vs,h1,h2,h3⟩:=h
  exact⟨vs,h1,ak.ext e l vs h2,h3⟩
 | .tup l,v,h=>by
  simp only [ah] at h ⊢
  obtain⟨vs,h1,h2⟩:=h
  exact⟨vs,h1,ak.ext e l vs h2⟩
theorem ak.ext (e:Ext L c tok mem w c' sw mem' w'):∀(l:List SV) (vs:List Value),ak T c tok mem w L l vs→ak T c' sw mem' w' L l vs
 |[],_,h=>by simpa [ak] using h
 |x::xs,vs,h=>by
  simp only [ak] at h ⊢
  obtain⟨u,us,h1,h2,h3⟩:=h
  exact⟨u,us,h1,ah.ext e x u h2,ak.ext e xs us h3⟩
end
theorem ak.all2:∀{l:List SV} {vs:List Value},ak T c tok mem w L l vs↔aN (ah T c tok mem w L) l vs
 |[],[]=>by simp [ak,aN]
 |[],_::_=>by simp [ak,aN]
 |_::_,[]=>by simp [ak,aN]
 |x::xs,u::us=>by
  simp only [ak,aN]
  constructor
  ·rintro⟨u',us',h1,h2,h3⟩
   cases h1
   exact⟨h2,ak.all2.1 h3⟩
  ·rintro⟨h2,h3⟩
   exact⟨u,us,rfl,h2,ak.all2.2 h3⟩
end
def pR (base:Nat) (c:Cx) (w:World) (τ sz:Nat) (q:Bool) (l:List AV) (xs:List Value):Prop:=
 q=true→∃bs,bV w sz l xs bs∧bs.Nodup∧∀b∈bs,c.I b∧c.lin b=some τ∧base≤b
def Xo (T:Nat→Ty) (L base:Nat) (c:Cx) (w:World) (τ:Nat) (t:Tok) (v:Value):Prop:=
 t.l.length≤L∧(T t.E).good=true∧∃xs,w.ownsRow base t.E (T t.E).size v t.l.length xs∧aZ c.I w L (T t.E).size t.l xs∧(∀b,v.ownBlock=some b→c.who b=some (true,τ))∧
  (∀x∈t.l,bF (T t.E).zero x.cells=true)∧pR base c w τ (T t.E).size t.lin t.l xs
def Ay (T:Nat→Ty) (L base:Nat) (c:Cx) (w:World) (τ:Nat) (t:Tok) (v:Value):Prop:=
 t.lin=true→(T t.E).good=true∧(∀x∈t.l,bF (T t.E).zero x.cells=true)∧∃xs bs,w.ownsRow base t.E (T t.E).size v t.l.length xs∧aZ c.I w L (T t.E).size t.l xs∧bV w (T t.E).size t.l xs bs∧
  (v.ownBlock.toList++bs).Nodup∧∀b∈v.ownBlock.toList++bs,c.I b∧c.lin b=some τ∧base≤b
theorem Turn.vo {O:Nat→Prop} {w w':World} (h:Turn (fun b=>O b∧false=true) w w'):Below w.heap.size w w':=⟨h.os,h.tape,h.output,h.size,fun k hk=>h.block k hk (fun hm=>by cases hm.2)⟩
structure Bs where
 I:Nat→Prop
 M:Nat→Prop
 A:Nat→Nat→Option Value
 B:Nat→Prop:=fun _=>False
 X:Nat→Option Nat:=fun _=>none
instance:CoeFun Bs (fun _=>Nat→Prop):=⟨Bs.I⟩
def QK (w0:World) (I0:Bs) (c:Cx) (mem:Nat→Option (Nat×List SV)):Prop:=
 (∀b τ,c.who b=some (true,τ)→w0.heap.size≤b)∧(∀b,c.J b∨c.O b→c.who b=none)∧(∀i g cells,mem (1000000+i)=some (g,cells)→∃b,I0.X i=some b∧c.β (1000000+i)=some b)
theorem QK.eq {w0:World} {I0:Bs} {c c':Cx} {mem:Nat→Option (Nat×List SV)} (h:QK w0 I0 c mem) (h1:∀b,c'.who b=c.who b∨c'.who b=none) (h2:c'.J=c.J) (h3:c'.O=c.O) (h4:c'.β=c.β):QK w0 I0 c' mem:=
 ⟨fun b τ hb=>(h1 b).elim (fun e=>h.1 b τ (e ▸ hb)) (fun e=>by rw [e] at hb;cases hb),fun b hb=>(h1 b).elim (fun e=>e.trans (h.2.1 b (by rw [h2,h3] at hb;exact hb))) id,fun i g cells hm=>by rw [h4];exact h.2.2 i g cells hm⟩
structure Gam (T:Nat→Ty) (L:Nat) (w0:World) (I0:Bs) (s:St) (a:Act) (w:World) (c:Cx):Prop where
 below:Turn c.M w0 w I0.B
 vv:∀b,I0 b→c.I b
 wR:∀b,c.I b→I0 b∨(w0.heap.size≤b∧eX w b)
 ilt:∀b,c.I b→b < w.heap.size
 jlt:∀b,c.J b→b < w0.heap.size
 jV:∀b,c.I b→c.who b=none
 olt:∀b,c.O b→b < w0.heap.size
 ofz:c.mt=true→∀b,c.O b→eX w b
 ij:c.mt=true→∀b,c.I b∨c.J b→¬ c.O b
 wlt:∀b,c.who b≠none→(w0.heap.size≤b∨I0.B b)∧b < w.heap.size
 size:a.tmps.size=s.n
 defers:a.defers= []
 om:c.M=I0.M
 ob:c.base=w0.heap.size∧c.As=I0.A
 bo:QK w0 I0 c s.mem
 slots:∀i,ah T c s.tok s.mem w L (s.get i) (a.tmps.getD i undef)
 jB:∀d g cells,s.mem d=some (g,cells)→∃b cs E,c.β d=some b∧c.who b=some (false,d)∧w.heap[b]? =some (.cells (List.toArray cs) E (0,0))∧ak T c s.tok s.mem w L cells cs∧fU cs
 toks:∀τ t,s.tok τ=some t→∃v,c.ω τ=some v∧(t.frz=true→aF c.I w L (.sl t.l) v∧(∀b,v.ownBlock=some b→w0.heap.size≤b)∧Ay T L w0.heap.size c w τ t v)∧(t.frz=false→Xo T L w0.heap.size c w τ t v)
section
variable {T:Nat→Ty} {L:Nat} {w0:World} {I0:Bs} {s:St} {a:Act} {w:World} {c:Cx}
theorem vw (a:Array Value) (d:Nat) (v:Value) (i:Nat):(a.setIfInBounds d v).getD i undef=if i=d∧d < a.size then v else a.getD i undef:=by
 simp only [Array.getD_eq_getD_getElem?,Array.getElem?_setIfInBounds]
 by_cases h:d=i
 ·subst h
  by_cases h2:d < a.size<;>simp [h2]
 ·simp [h,Ne.symm h]
theorem Gam.set (h:Gam T L w0 I0 s a w c) {d:Nat} {x:SV} {v:Value} (hv:ah T c s.tok s.mem w L x v):Gam T L w0 I0 (s.set d x) (a.put (some d) v) w c:=by
 refine⟨h.below,h.vv,h.wR,h.ilt,h.jlt,h.jV,h.olt,h.ofz,h.ij,h.wlt,?_,h.defers,h.om,h.ob,h.bo,fun i=>?_,h.jB,h.toks⟩
 ·simpa [Act.put,St.set] using h.size
 ·simp only [Act.put,St.set,vw,h.size]
  by_cases hi:i=d
  ·subst hi
   simp only [Nat.beq_refl,cond_true,true_and]
   by_cases hn:i < s.n
   ·have:Nat.blt i s.n=true:=by simpa [Nat.blt_eq] using hn
    simp [hn,this,hv]
   ·have:Nat.blt i s.n=false:=by
     cases hb:Nat.blt i s.n with
     |false=>rfl
     |true=>exact absurd (by simpa [Nat.blt_eq] using hb) hn
    simp [this,ah]
  ·have:Nat.beq i d=false:=by
    cases hb:Nat.beq i d with
    |false=>rfl
    |true=>exact absurd (Nat.eq_of_beq_eq_true hb) hi
   simp only [hi,this,false_and,if_false,cond_false];exact h.slots i
theorem Gam.put (h:Gam T L w0 I0 s a w c) {d:Option Nat} {x:SV} {v:Value} (hv:ah T c s.tok s.mem w L x v):Gam T L w0 I0 (s.put d x) (a.put d v) w c:=by
 cases d with
 |none=>exact h
 |some d=>exact h.set hv
theorem Gam.know (h:Gam T L w0 I0 s a w c) {d:Nat} {x:SV} (hv:ah T c s.tok s.mem w L x (a.tmps.getD d undef)):Gam T L w0 I0 (s.set d x) a w c:=by
 refine⟨h.below,h.vv,h.wR,h.ilt,h.jlt,h.jV,h.olt,h.ofz,h.ij,h.wlt,h.size,h.defers,h.om,h.ob,h.bo,fun i=>?_,h.jB,h.toks⟩
 simp only [St.set]
 by_cases hi:i=d
 ·subst hi
  simp only [Nat.beq_refl,cond_true]
  cases Nat.blt i s.n
  ·simp [ah]
  ·exact hv
 ·have:Nat.beq i d=false:=by
   cases hb:Nat.beq i d with
   |false=>rfl
   |true=>exact absurd (Nat.eq_of_beq_eq_true hb) hi
  simp only [this,cond_false];exact h.slots i
theorem UD {v:Value}:ah T c s.tok s.mem w L (cv v) v:=by
 unfold cv
 split<;>simp [ah,aF]
theorem Gam.ev (h:Gam T L w0 I0 s a w c) (x:Operand):ah T c s.tok s.mem w L (s.ev x) (a.eval x):=by
 cases x with
 |tmp t=>exact h.slots t
 |const v=>exact UD
 |global g=>simp [St.ev,ah]
 |func f=>simp [St.ev,ah,Act.eval,ak]
theorem Az {w w':World} {base:Nat} {e:TypeId} {size:Nat} {v:Value} {n:Nat} {xs:List Value} (h:w.ownsRow base e size v n xs) (hb:∀b,v.ownBlock=some b→w'.heap[b]? =w.heap[b]?):w'.ownsRow base e size v n xs:=by
 refine⟨h.1,?_⟩
 rcases h.2 with hn|⟨g,cap,cur,rfl,h1,h2,rest⟩
 ·exact .inl hn
 ·exact .inr ⟨g,cap,cur,rfl,h1,by rw [hb g rfl];exact h2,rest⟩
theorem pR.keep {base τ sz:Nat} {q:Bool} {l:List AV} {xs:List Value} {c c':Cx} {w w':World} (h:pR base c w τ sz q l xs) (hI:∀b,c.I b→c'.I b) (hl:∀b,c.I b→c.lin b=some τ→c'.lin b=some τ)
  (hw:∀b o,c.I b→w'.cell? ⟨b,o,none⟩=w.cell? ⟨b,o,none⟩):pR base c' w' τ sz q l xs:=fun hq=>by
 obtain⟨bs,h1,h2,h3⟩:=h hq
 exact⟨bs,h1.mono fun b hb o=>hw b o (h3 b hb).1,h2,fun b hb=>⟨hI b (h3 b hb).1,hl b (h3 b hb).1 (h3 b hb).2.1,(h3 b hb).2.2⟩⟩
theorem Ay.keep {T:Nat→Ty} {L base τ:Nat} {t:Tok} {v:Value} {c c':Cx} {w w':World} (h:Ay T L base c w τ t v) (hI:∀b,c.I b→c'.I b) (hl:∀b,c.I b→c.lin b=some τ→c'.lin b=some τ)
  (hw:∀b,c.I b→w'.heap[b]? =w.heap[b]?):Ay T L base c' w' τ t v:=fun hq=>by
 obtain⟨h0,h4,xs,bs,h1,h6,h2,h3,h5⟩:=h hq
 refine⟨h0,h4,xs,bs,Az h1 fun b hb=>hw b (h5 b (by simp [hb])).1,h6.mono hI (fun b o hi=>World.cell?_of_block (hw b hi)),h2.mono fun b hb o=>World.cell?_of_block (hw b (h5 b (by simp [hb])).1),h3,fun b hb=>⟨hI b (h5 b hb).1,hl b (h5 b hb).1 (h5 b hb).2.1,(h5 b hb).2.2⟩⟩
theorem Gam.mlt (h:Gam T L w0 I0 s a w c):∀k,c.M k→k < w0.heap.size:=fun k hk=>h.olt k hk.1
theorem Gam.AA (h:Gam T L w0 I0 s a w c):∀k,c.O k→k < w.heap.size:=fun k hk=>Nat.lt_of_lt_of_le (h.olt k hk) h.below.size
theorem Gam.Jl (h:Gam T L w0 I0 s a w c):∀k,c.J k→k < w.heap.size:=fun k hk=>Nat.lt_of_lt_of_le (h.jlt k hk) h.below.size
theorem Gam.nm (h:Gam T L w0 I0 s a w c) {k:Nat} (hk:c.I k∨c.J k):¬ c.M k:=fun hm=>h.ij hm.2 k hk hm.1
theorem Gam.LG (h:Gam T L w0 I0 s a w c) {w':World} (e:∀b,c.I b→w'.heap[b]? =w.heap[b]?):∀b,c.I b→I0 b∨(w0.heap.size≤b∧eX w' b):=fun b hi=>
 (h.wR b hi).imp id fun k=>⟨k.1,k.2.same (e b hi)⟩
theorem Gam.UE (h:Gam T L w0 I0 s a w c) {w':World} (e:∀b,c.O b→w'.heap[b]? =w.heap[b]?):c.mt=true→∀b,c.O b→eX w' b:=fun hm b ho=>(h.ofz hm b ho).same (e b ho)
theorem Gam.Xp (h:Gam T L w0 I0 s a w c) {w':World} {I':Nat→Prop} (hb:Turn c.M w w') (hI:∀b,c.I b→I' b):Ext L c s.tok s.mem w { c with I:=I' } s.tok s.mem w':=
 ⟨hI,fun _ h=>h,rfl,rfl,rfl,rfl,fun b o hi=>hi.elim (fun hi=>hb.cell? (h.ilt b hi) (h.nm (.inl hi))) (fun hj=>hb.cell? (h.Jl b hj) (h.nm (.inr hj))),fun hf b o ho=>hb.cell? (h.AA b ho) (fun hm=>by have:=hm.2;rw [hf] at this;cases this),fun hm=>fun b o v hj hv=>hb.cell b o v ⟨hj,hm⟩ hv,fun τ t ht=>⟨t,ht,Nat.le_refl _,fun _=>⟨rfl,rfl⟩⟩,fun d g cells hd=>⟨g,cells,hd,Nat.le_refl _,fun _=>rfl⟩⟩
theorem Gam.grow (h:Gam T L w0 I0 s a w c) {w':World} {I':Nat→Prop} (hb:Turn c.M w w') (hI:∀b,c.I b→I' b) (hI':∀b,I' b→c.I b∨(w.heap.size≤b∧b < w'.heap.size∧eX w' b)):
  Gam T L w0 I0 s a w' { c with I:=I' }:=by
 have hlt:=h.below.size
 have hcell:∀b o,c.I b→w'.cell? ⟨b,o,none⟩=w.cell? ⟨b,o,none⟩:=fun b o hi=>hb.cell? (h.ilt b hi) (h.nm (.inl hi))
 have hwho:∀b,c.who b≠none→w'.heap[b]? =w.heap[b]? :=fun b hi=>hb.block b (h.wlt b hi).2 (fun hm=>hi (h.bo.2.1 b (.inr hm.1)))
 have e:Ext L c s.tok s.mem w { c with I:=I' } s.tok s.mem w':=⟨hI,fun _ h=>h,rfl,rfl,rfl,rfl,fun b o hi=>hi.elim (hcell b o) (fun hj=>hb.cell? (h.Jl b hj) (h.nm (.inr hj))),fun hf b o ho=>hb.cell? (h.AA b ho) (fun hm=>by have:=hm.2;rw [hf] at this;cases this),fun hm=>fun b o v hj hv=>hb.cell b o v ⟨hj,hm⟩ hv,fun τ t ht=>⟨t,ht,Nat.le_refl _,fun _=>⟨rfl,rfl⟩⟩,fun d g cells hd=>⟨g,cells,hd,Nat.le_refl _,fun _=>rfl⟩⟩
 refine⟨h.below.trans hb.all,fun b hb'=>hI b (h.vv b hb'),?_,?_,h.jlt,?_,h.olt,fun hm b ho=>hb.thaw b ⟨ho,hm⟩ (h.ofz hm b ho),?_,?_,h.size,h.defers,h.om,h.ob,h.bo,fun i=>ah.ext e _ _ (h.slots i),?_,?_⟩
 ·intro b hi
  rcases hI' b hi with hi|⟨hi,_,ht⟩
  ·exact h.LG (fun b hi=>hb.block b (h.ilt b hi) (h.nm (.inl hi))) b hi
  ·exact .inr ⟨by omega,ht⟩
 ·intro b hi
  have:=hb.size
  rcases hI' b hi with hi|⟨_,hi,_⟩
  ·have:=h.ilt b hi;omega
  ·exact hi
 ·intro b hi
  rcases hI' b hi with hi|⟨hi,_⟩
  ·exact h.jV b hi
  ·cases hw:c.who b with
   |none=>rfl
   |some x=>have:=(h.wlt b (by simp [hw])).2;omega
 ·rintro hm b (hi|hi) hj
  ·rcases hI' b hi with hi|⟨hi,_⟩
   ·exact h.ij hm b (.inl hi) hj
   ·have:=h.olt b hj;omega
  ·exact h.ij hm b (.inr hi) hj
 ·intro b hi
  have h1:=h.wlt b hi
  have:=hb.size
  exact⟨h1.1,by omega⟩
 ·intro d g cells hd
  obtain⟨b,cs,E,h1,h2,h3,h4,h5⟩:=h.jB d g cells hd
  refine⟨b,cs,E,h1,h2,?_,ak.ext e _ _ h4,h5⟩
  rw [hwho b (by simp [h2])]
  exact h3
 ·intro τ t ht
  obtain⟨v,h1,h2,h3⟩:=h.toks τ t ht
  refine⟨v,h1,fun hf=>⟨(h2 hf).1.mono hI hcell,(h2 hf).2.1,(h2 hf).2.2.keep hI (fun _ _ h=>h) fun b hi=>hb.block b (h.ilt b hi) (h.nm (.inl hi))⟩,fun hf=>?_⟩
  obtain⟨h4,hgd,xs,h5,h6,h7,h8,h9⟩:=h3 hf
  refine⟨h4,hgd,xs,?_,h6.mono hI hcell,h7,h8,h9.keep hI (fun _ _ h=>h) hcell⟩
  exact Az h5 fun b hvb=>hwho b (by simp [h7 b hvb])
end
end Go.Proofs.YtpfgedlimdeffaaGreat.Abs
namespace Go.Proofs.YtpfgedlimdeffaaGreat.Abs
open Go.RowKit
def upd {α:Type} (f:Nat→α) (k:Nat) (v:α):Nat→α:=fun i=>if i=k then v else f i
theorem upd_same {α:Type} (f:Nat→α) (k:Nat) (v:α):upd f k v k=v:=by simp [upd]
theorem upd_ne {α:Type} (f:Nat→α) {k i:Nat} (v:α) (h:i≠k):upd f k v i=f i:=by simp [upd,h]
theorem lM {i j:Nat} (h:i≠j):Nat.beq i j=false:=by
 cases hb:Nat.beq i j with
 |false=>rfl
 |true=>exact absurd (Nat.eq_of_beq_eq_true hb) h
theorem dh (s:St) (τ:Nat) (t:Tok):(s.aS τ t).tok τ=some t:=by simp [St.aS]
theorem gG (s:St) {τ σ:Nat} (t:Tok) (h:σ≠τ):(s.aS τ t).tok σ=s.tok σ:=by simp [St.aS,lM h]
theorem dN (s:St) (d g:Nat) (cs:List SV):(s.bU d g cs).mem d=some (g,cs):=by simp [St.bU]
theorem eZ (s:St) {d e:Nat} (g:Nat) (cs:List SV) (h:e≠d):(s.bU d g cs).mem e=s.mem e:=by simp [St.bU,lM h]
section
variable {T:Nat→Ty} {L:Nat} {w0:World} {I0:Bs} {s:St} {a:Act} {w:World} {c:Cx}
theorem Gam.Ee (h:Gam T L w0 I0 s a w c) {τ:Nat} {t:Tok} {v:Value} (ht:s.tok τ=some t) (hv:c.ω τ=some v) (hf:t.frz=false):∀b,v.ownBlock=some b→c.who b=some (true,τ)∧b < w.heap.size:=by
 intro b hb
 obtain⟨v',h1,_,h3⟩:=h.toks τ t ht
 rw [hv] at h1;cases h1
 obtain⟨_,_,xs,_,_,h7,_⟩:=h3 hf
 exact⟨h7 b hb,(h.wlt b (by simp [h7 b hb])).2⟩
theorem Ef {w:World} {base:Nat} {e:TypeId} {size:Nat} {v:Value} {n:Nat} {xs:List Value} (h:w.ownsRow base e size v n xs) {b:Nat} (hb:v.ownBlock=some b):eX w b:=by
 rcases h.2 with⟨rfl,_⟩|⟨g,cap,cur,rfl,_,h2,_⟩
 ·cases hb
 ·cases hb
  intro o
  simp [World.frozen?,h2]
theorem Gam.bB (h:Gam T L w0 I0 s a w c) {d:Nat} {cells:List SV} {cs:List Value} (E:TypeId) (hc:ak T c s.tok s.mem w L cells cs) (hn:fU cs) (hd6:d < 1000000):
  ∃c',Gam T L w0 I0 (bB s d cells).2 a (w.alloc (.cells cs.toArray E)) c'∧
   ah T c' (bB s d cells).2.tok (bB s d cells).2.mem (w.alloc (.cells cs.toArray E)) L (bB s d cells).1 (.pointer (some ⟨w.heap.size,0,none⟩))∧
   Ext L c s.tok s.mem w c' (bB s d cells).2.tok (bB s d cells).2.mem (w.alloc (.cells cs.toArray E)):=by
 have hg:∀g' cells',s.mem d=some (g',cells')→g' < fJ (s.mem d):=fun g' cells' h=>by rw [h];simp [fJ]
 simp only [Abs.bB]
 generalize fJ (s.mem d)=g at hg
 refine⟨{ c with β:=upd c.β d (some w.heap.size),who:=upd c.who w.heap.size (some (false,d)) },?_⟩
 have hcell:∀b o,c.I b→(w.alloc (.cells cs.toArray E)).cell? ⟨b,o,none⟩=w.cell? ⟨b,o,none⟩:=fun b o hi=>
  World.cell?_of_block (heap_alloc_old w _ (h.ilt b hi))
 have sV:∀b o,c.J b→(w.alloc (.cells cs.toArray E)).cell? ⟨b,o,none⟩=w.cell? ⟨b,o,none⟩:=fun b o hi=>
  World.cell?_of_block (heap_alloc_old w _ (Nat.lt_of_lt_of_le (h.jlt b hi) h.below.size))
 have pU:∀b o,c.O b→(w.alloc (.cells cs.toArray E)).cell? ⟨b,o,none⟩=w.cell? ⟨b,o,none⟩:=fun b o hi=>
  World.cell?_of_block (heap_alloc_old w _ (Nat.lt_of_lt_of_le (h.olt b hi) h.below.size))
 have e:Ext L c s.tok s.mem w { c with β:=upd c.β d (some w.heap.size),who:=upd c.who w.heap.size (some (false,d)) } s.tok (s.bU d g cells).mem (w.alloc (.cells cs.toArray E)):=by
  refine⟨fun _ hi=>hi,fun _ hj=>hj,rfl,rfl,rfl,rfl,fun b o hi=>hi.elim (hcell b o) (sV b o),fun _=>pU,fun _=>Turned.same pU,fun τ t ht=>⟨t,ht,Nat.le_refl _,fun _=>⟨rfl,rfl⟩⟩,fun d' g' cells' hd=>?_⟩
  by_cases hdd:d'=d
  ·subst hdd
   have:=hg g' cells' hd
   exact⟨g,cells,dN s d' g cells,by omega,fun hgg=>by omega⟩
  ·exact⟨g',cells',by rw [eZ s g cells hdd];exact hd,Nat.le_refl _,fun _=>upd_ne _ _ hdd⟩
 have hsz:(w.alloc (.cells cs.toArray E)).heap.size=w.heap.size+1:=by simp
 refine⟨⟨?_,h.vv,h.LG fun b hi=>heap_alloc_old w _ (h.ilt b hi),?_,h.jlt,?_,h.olt,h.UE fun b hi=>heap_alloc_old w _ (h.AA b hi),h.ij,?_,h.size,h.defers,h.om,h.ob,?_,fun i=>ah.ext e _ _ (h.slots i),?_,?_⟩,?_,e⟩
 ·exact h.below.keep h.mlt ((Below.refl _ _).alloc h.below.size _) (Nat.le_refl _)
 ·intro b hi;have:=h.ilt b hi;omega
 ·intro b hi;exact (upd_ne _ _ (Nat.ne_of_lt (h.ilt b hi))).trans (h.jV b hi)
 ·intro b hi
  by_cases hb:b=w.heap.size
  ·have:=h.below.size;exact⟨.inl (by omega),by omega⟩
  ·simp only [upd_ne _ _ hb] at hi
   have h1:=h.wlt b hi;exact⟨h1.1,by omega⟩
 ·have hne:∀b,b < w.heap.size→b≠w.heap.size:=fun b hb=>Nat.ne_of_lt hb
  refine⟨fun b τ hb=>?_,fun b hb=>?_,fun i g' cells' hm=>?_⟩
  ·by_cases e:b=w.heap.size
   ·rw [e];exact h.below.size
   ·simp only [upd_ne _ _ e] at hb;exact h.bo.1 b τ hb
  ·have hlt:b < w.heap.size:=hb.elim (h.Jl b) (h.AA b)
   simp only [upd_ne _ _ (hne b hlt)];exact h.bo.2.1 b hb
  ·rw [eZ s g cells (show 1000000+i≠d by omega)] at hm
   simp only [upd_ne _ _ (show 1000000+i≠d by omega)];exact h.bo.2.2 i g' cells' hm
 ·intro d' g' cells' hd
  by_cases hdd:d'=d
  ·subst hdd
   rw [dN] at hd
   cases hd
   exact⟨w.heap.size,cs,E,upd_same _ _ _,upd_same _ _ _,heap_alloc_new w _,ak.ext e _ _ hc,hn⟩
  ·rw [eZ s g cells hdd] at hd
   obtain⟨b,cs',E',h1,h2,h3,h4,h5⟩:=h.jB d' g' cells' hd
   have hb:=(h.wlt b (by simp [h2])).2
   exact⟨b,cs',E',by simpa only [upd_ne _ _ hdd] using h1,by simpa only [upd_ne _ _ (Nat.ne_of_lt hb)] using h2,by rw [heap_alloc_old w _ hb];exact h3,ak.ext e _ _ h4,h5⟩
 ·intro τ t ht
  obtain⟨v,h1,h2,h3⟩:=h.toks τ t ht
  refine⟨v,h1,fun hf=>⟨(h2 hf).1.mono (fun _ hi=>hi) hcell,(h2 hf).2.1,(h2 hf).2.2.keep (fun _ h=>h) (fun _ _ h=>h) fun b hi=>heap_alloc_old w _ (h.ilt b hi)⟩,fun hf=>?_⟩
  obtain⟨h4,hgd,xs,h5,h6,h7,h8,h9⟩:=h3 hf
  refine⟨h4,hgd,xs,h5.alloc _,h6.mono (fun _ hi=>hi) hcell,fun b hb=>?_,h8,h9.keep (fun _ h=>h) (fun _ _ h=>h) hcell⟩
  have:=(h.Ee ht h1 hf b hb).2
  simpa only [upd_ne _ _ (Nat.ne_of_lt this)] using h7 b hb
 ·simp only [ah]
  exact⟨g,cells,dN s d g cells,Nat.le_refl _,fun _=>⟨w.heap.size,upd_same _ _ _,rfl⟩⟩
theorem Gam.token (h:Gam T L w0 I0 s a w c) {τ g E:Nat} {l:List AV} {q:Bool} {w':World} {v:Value} {row:Option Nat} {xs:List Value}
  (hgen:∀t,s.tok τ=some t→t.gen < g)
  (hgrow:w.grownBy w' row) (hdr:w.drawn≤w'.drawn) (hrow:∀b,row=some b→c.who b=some (true,τ))
  (hown:w'.ownsRow w0.heap.size E (T E).size v l.length xs) (hrows:aZ c.I w L (T E).size l xs) (hl:l.length≤L) (hE:(T E).good=true)
  (hfit:∀x∈l,bF (T E).zero x.cells=true) (hlin:pR w0.heap.size c w τ (T E).size q l xs)
  (hblk:∀b,v.ownBlock=some b→row=some b∨(c.who b=none∧¬ c.I b)):
  ∃c',Gam T L w0 I0 (s.aS τ ⟨g,false,E,l,q⟩) a w' c'∧ah T c' (s.aS τ ⟨g,false,E,l,q⟩).tok s.mem w' L (.own τ g) v∧
   Ext L c s.tok s.mem w c' (s.aS τ ⟨g,false,E,l,q⟩).tok s.mem w'∧c'.I=c.I∧∀b,v.ownBlock≠some b→c'.who b=c.who b:=by
 have hcell:∀b o,c.I b→w'.cell? ⟨b,o,none⟩=w.cell? ⟨b,o,none⟩:=fun b o hi=>
  World.cell?_of_block (hgrow.block b (h.ilt b hi) (fun e=>by have:=hrow b e.symm;rw [h.jV b hi] at this;cases this))
 let who':Nat→Option (Bool×Nat):=match v.ownBlock with|some b=>upd c.who b (some (true,τ))|none=>c.who
 have hwho:∀b,v.ownBlock=some b→who' b=some (true,τ):=by
  intro b hb;simp only [who',hb,upd_same]
 have RU:∀b,v.ownBlock≠some b→who' b=c.who b:=by
  intro b hb
  cases hv:v.ownBlock with
  |none=>simp [who',hv]
  |some k=>
   simp only [who',hv]
   exact upd_ne _ _ (fun e=>by subst e;exact hb hv)
 have RX:∀b,c.I b∨c.who b≠none→who' b=c.who b:=by
  intro b hb
  cases hv:v.ownBlock with
  |none=>simp [who',hv]
  |some k=>
   simp only [who',hv]
   by_cases hbk:b=k
   ·subst hbk
    rw [upd_same]
    rcases hblk b hv with hr|⟨hr,hr'⟩
    ·exact (hrow b hr).symm
    ·exact (hb.elim hr' (fun h=>h hr)).elim
   ·exact upd_ne _ _ hbk
 have Xq:∀b,who' b≠none→(w0.heap.size≤b∨I0.B b)∧b < w'.heap.size:=by
  intro b hb
  have hs:=hgrow.size
  by_cases hlt:c.who b≠none
  ·have h1:=h.wlt b hlt;exact⟨h1.1,by omega⟩
  ·cases hv:v.ownBlock with
   |none=>simp only [who',hv] at hb;have h1:=h.wlt b hb;exact⟨h1.1,by omega⟩
   |some k=>
    simp only [who',hv] at hb
    by_cases hbk:b=k
    ·subst hbk
     have:=hown.lt b hv
     exact⟨.inl this.1,this.2⟩
    ·rw [upd_ne _ _ hbk] at hb
     have h1:=h.wlt b hb;exact⟨h1.1,by omega⟩
 have Xr:QK w0 I0 { c with ω:=upd c.ω τ (some v),who:=who' } s.mem:=by
  refine⟨fun b σ hb=>?_,fun b hb=>?_,fun i g' cells' hm=>h.bo.2.2 i g' cells' hm⟩
  ·by_cases hvb:v.ownBlock=some b
   ·exact (hown.lt b hvb).1
   ·exact h.bo.1 b σ ((RU b hvb).symm.trans hb)
  ·have h1:=h.bo.2.1 b hb
   have hlt:b < w0.heap.size:=hb.elim (h.jlt b) (h.olt b)
   by_cases hvb:v.ownBlock=some b
   ·have:=(hown.lt b hvb).1;omega
   ·exact (RU b hvb).trans h1
 refine⟨{ c with ω:=upd c.ω τ (some v),who:=who' },?_⟩
 have e:Ext L c s.tok s.mem w { c with ω:=upd c.ω τ (some v),who:=who' } (s.aS τ ⟨g,false,E,l,q⟩).tok s.mem w':=by
  have sV:∀b o,c.J b→w'.cell? ⟨b,o,none⟩=w.cell? ⟨b,o,none⟩:=fun b o hj=>World.cell?_of_block (hgrow.block b (Nat.lt_of_lt_of_le (h.jlt b hj) h.below.size) (fun e=>by have:=h.bo.1 b τ (hrow b e.symm);have:=h.jlt b hj;omega))
  have pU:∀b o,c.O b→w'.cell? ⟨b,o,none⟩=w.cell? ⟨b,o,none⟩:=fun b o hj=>World.cell?_of_block (hgrow.block b (Nat.lt_of_lt_of_le (h.olt b hj) h.below.size) (fun e=>by have:=h.bo.1 b τ (hrow b e.symm);have:=h.olt b hj;omega))
  refine⟨fun _ hi=>hi,fun _ hj=>hj,rfl,rfl,rfl,rfl,fun b o hi=>hi.elim (hcell b o) (sV b o),fun _=>pU,fun _=>Turned.same pU,fun σ t ht=>?_,fun d g cells hd=>⟨g,cells,hd,Nat.le_refl _,fun _=>rfl⟩⟩
  by_cases hs:σ=τ
  ·subst hs
   have:=hgen t ht
   exact⟨_,dh s σ _,Nat.le_of_lt this,fun hh=>by simp at hh;omega⟩
  ·exact⟨t,by rw [gG s _ hs];exact ht,Nat.le_refl _,fun _=>⟨upd_ne _ _ hs,rfl⟩⟩
 have hbI:∀b,c.I b→w'.heap[b]? =w.heap[b]? :=fun b hi=>hgrow.block b (h.ilt b hi) (fun e=>by have:=hrow b e.symm;rw [h.jV b hi] at this;cases this)
 have hbO:∀b,c.O b→w'.heap[b]? =w.heap[b]? :=fun b hj=>hgrow.block b (h.AA b hj) (fun e=>by have:=h.bo.1 b τ (hrow b e.symm);have:=h.olt b hj;omega)
 refine⟨⟨?_,h.vv,h.LG hbI,?_,h.jlt,?_,h.olt,h.UE hbO,h.ij,Xq,h.size,h.defers,h.om,h.ob,Xr,fun i=>ah.ext e _ _ (h.slots i),?_,?_⟩,?_,e,rfl,RU⟩
 ·exact h.below.keep h.mlt ((Below.refl _ _).grown hgrow h.below.size (fun k hk=>h.bo.1 k τ (hrow k hk))) hdr
 ·intro b hi;have:=h.ilt b hi;have:=hgrow.size;omega
 ·intro b hi;exact (RX b (.inl hi)).trans (h.jV b hi)
 ·intro d g cells hd
  obtain⟨b,cs,E',h1,h2,h3,h4,h5⟩:=h.jB d g cells hd
  have hb:=(h.wlt b (by simp [h2])).2
  refine⟨b,cs,E',h1,(RX b (.inr (by simp [h2]))).trans h2,?_,ak.ext e _ _ h4,h5⟩
  rw [hgrow.block b hb (fun e=>by have:=hrow b e.symm;rw [h2] at this;cases this)]
  exact h3
 ·intro σ t ht
  by_cases hs:σ=τ
  ·subst hs
   rw [dh] at ht
   cases ht
   exact⟨v,upd_same _ _ _,nofun,fun _=>⟨hl,hE,xs,hown,hrows.mono (fun _ hi=>hi) hcell,hwho,hfit,hlin.keep (fun _ h=>h) (fun _ _ h=>h) hcell⟩⟩
  ·rw [gG s _ hs] at ht
   obtain⟨u,h1,h2,h3⟩:=h.toks σ t ht
   refine⟨u,by simpa only [upd_ne _ _ hs] using h1,fun hf=>⟨(h2 hf).1.mono (fun _ hi=>hi) hcell,(h2 hf).2.1,(h2 hf).2.2.keep (fun _ h=>h) (fun _ _ h=>h) hbI⟩,fun hf=>?_⟩
   obtain⟨h4,hgd,ys,h5,h6,h7,h8,h9⟩:=h3 hf
   have hob:=h.Ee ht h1 hf
   refine⟨h4,hgd,ys,h5.kept hgrow ?_,h6.mono (fun _ hi=>hi) hcell,fun b hb=>(RX b (.inr (by simp [h7 b hb]))).trans (h7 b hb),h8,h9.keep (fun _ h=>h) (fun _ _ h=>h) hcell⟩
   cases hub:u.ownBlock with
   |none=>exact .inl rfl
   |some b=>
    refine .inr fun e=>?_
    have h8:=hrow b e.symm
    rw [(hob b hub).1] at h8
    cases h8
    exact hs rfl
 ·simp only [ah]
  exact⟨_,dh s τ _,Nat.le_refl _,fun _=>upd_same _ _ _⟩
theorem Eh {base:Nat} {E:TypeId} {sz n:Nat} {v:Value} {xs:List Value} {I:Nat→Prop} {l:List AV} (hn:l.length=n) (hL:n≤L) (h:w.ownsRow base E sz v n xs) (hr:aZ I w L sz l xs) (hI:∀b,v.ownBlock=some b→I b):
  aF I w L (.sl l) v:=by
 simp only [aF,aD]
 rcases h.2 with⟨rfl,h0⟩|⟨b,cap,cur,rfl,hb,hg,hc,hm,hs,ht⟩
 ·exact⟨none,0,by rw [hn,h0],by omega,by omega,.inl (by omega)⟩
 ·refine⟨_,cap,by rw [hn],by omega,by omega,.inr ⟨b,0,sz,rfl,hI b rfl,hr.lies fun j u hu=>?_⟩⟩
  have:=h.cells (g:=b) rfl j u hu
  rw [Addr.add_lit] at this
  simpa using this
theorem Gam.PU (h:Gam T L w0 I0 s a w c) {τ:Nat} {t:Tok} (ht:s.tok τ=some t):
  ∃c' v,Gam T L w0 I0 (s.aS τ { t with frz:=true }) a w c'∧Ext L c s.tok s.mem w c' (s.aS τ { t with frz:=true }).tok s.mem w∧c.ω τ=some v∧aF c'.I w L (.sl t.l) v∧
   (∀σ b,c.I b→c.lin b=some σ→c'.lin b=some σ)∧Ay T L w0.heap.size c' w τ t v:=by
 obtain⟨v,h1,h2,h3⟩:=h.toks τ t ht
 by_cases hf:t.frz=true
 ·have heq:s.aS τ { t with frz:=true }=s:=by
   have:({ t with frz:=true }:Tok)=t:=by cases t;simp at hf;simp [hf]
   rw [this]
   simp only [St.aS]
   congr 1
   funext i
   by_cases hi:i=τ
   ·subst hi;simp [ht]
   ·simp [lM hi]
  rw [heq]
  refine⟨c,v,h,⟨fun _ hi=>hi,fun _ hj=>hj,rfl,rfl,rfl,rfl,fun _ _ _=>rfl,fun _ _ _ _=>rfl,fun _=>Turned.refl _ _,fun τ t ht=>⟨t,ht,Nat.le_refl _,fun _=>⟨rfl,rfl⟩⟩,fun d g cells hd=>⟨g,cells,hd,Nat.le_refl _,fun _=>rfl⟩⟩,h1,(h2 hf).1,fun _ _ _ h=>h,(h2 hf).2.2⟩
 ·have hf':t.frz=false:=by simpa using hf
  obtain⟨h4,hgd,xs,h5,h6,h7,h8,h9⟩:=h3 hf'
  let who':Nat→Option (Bool×Nat):=match v.ownBlock with|some b=>upd c.who b none|none=>c.who
  let vB:Nat→Option Nat:=fun b=>if v.ownBlock=some b then some τ else c.lin b
  have hlin:∀b σ,c.I b→c.lin b=some σ→vB b=some σ:=fun b σ hi hb=>by
   have:v.ownBlock≠some b:=fun e=>by have:=h7 b e;rw [h.jV b hi] at this;cases this
   simp only [vB,if_neg this];exact hb
  have hwho:∀b,v.ownBlock≠some b→who' b=c.who b:=by
   intro b hb
   cases hv:v.ownBlock with
   |none=>simp [who',hv]
   |some k=>
    simp only [who',hv]
    exact upd_ne _ _ (fun e=>by subst e;exact hb hv)
  have Ei:∀b,v.ownBlock=some b→who' b=none:=by
   intro b hb;simp only [who',hb,upd_same]
  let c':Cx:={ c with I:=fun b=>c.I b∨v.ownBlock=some b,who:=who',lin:=vB }
  have e:Ext L c s.tok s.mem w c' (s.aS τ { t with frz:=true }).tok s.mem w:=by
   refine⟨fun _ hi=>.inl hi,fun _ hj=>hj,rfl,rfl,rfl,rfl,fun _ _ _=>rfl,fun _ _ _ _=>rfl,fun _=>Turned.refl _ _,fun σ t' ht'=>?_,fun d g cells hd=>⟨g,cells,hd,Nat.le_refl _,fun _=>rfl⟩⟩
   by_cases hs:σ=τ
   ·subst hs
    rw [ht] at ht';cases ht'
    exact⟨_,dh s σ _,Nat.le_refl _,fun _=>⟨rfl,rfl⟩⟩
   ·exact⟨t',by rw [gG s _ hs];exact ht',Nat.le_refl _,fun _=>⟨rfl,rfl⟩⟩
  have hlt:=h.Ee ht h1 hf'
  have hnew:∀b,v.ownBlock=some b→w0.heap.size≤b∧b < w.heap.size:=fun b hb=>⟨h.bo.1 b τ (hlt b hb).1,(hlt b hb).2⟩
  have hRV:aF c'.I w L (.sl t.l) v:=Eh rfl h4 h5 (h6.mono (fun _ hi=>.inl hi) (fun _ _ _=>rfl)) (fun b hb=>.inr hb)
  have hLF:Ay T L w0.heap.size c' w τ t v:=fun hq=>by
   obtain⟨bs,m1,m2,m3⟩:=h9 hq
   refine⟨hgd,h8,xs,bs,h5,h6.mono (fun _ hi=>.inl hi) (fun _ _ _=>rfl),m1,?_,fun b hb=>?_⟩
   ·rw [List.nodup_append]
    refine⟨by cases v.ownBlock<;>simp,m2,fun x hx y hy e=>?_⟩
    subst e
    have:=h7 x (by simpa using hx)
    rw [h.jV x (m3 x hy).1] at this;cases this
   ·rcases List.mem_append.1 hb with hb|hb
    ·have hb':v.ownBlock=some b:=by simpa using hb
     exact⟨.inr hb',by simp only [c',vB,if_pos hb'],(hnew b hb').1⟩
    ·exact⟨.inl (m3 b hb).1,hlin b _ (m3 b hb).1 (m3 b hb).2.1,(m3 b hb).2.2⟩
  refine⟨c',v,⟨h.below,fun b hi=>.inl (h.vv b hi),?_,?_,h.jlt,?_,h.olt,h.ofz,?_,?_,h.size,h.defers,h.om,h.ob,h.bo.eq (fun b=>(Classical.em (v.ownBlock=some b)).elim (fun e=>.inr (Ei b e)) (fun e=>.inl (hwho b e))) rfl rfl rfl,fun i=>ah.ext e _ _ (h.slots i),?_,?_⟩,e,h1,hRV,fun σ b hi=>hlin b σ hi,hLF⟩
  ·rintro b (hi|hi)
   ·exact h.wR b hi
   ·exact .inr ⟨(hnew b hi).1,Ef h5 hi⟩
  ·rintro b (hi|hi)
   ·exact h.ilt b hi
   ·exact (hnew b hi).2
  ·rintro b (hi|hi)
   ·by_cases hb:v.ownBlock=some b
    ·exact Ei b hb
    ·exact (hwho b hb).trans (h.jV b hi)
   ·exact Ei b hi
  ·rintro hm b ((hi|hi)|hi) hj
   ·exact h.ij hm b (.inl hi) hj
   ·have:=h.olt b hj;have:=(hnew b hi).1;omega
   ·exact h.ij hm b (.inr hi) hj
  ·intro b hb
   by_cases hv:v.ownBlock=some b
   ·exact absurd (Ei b hv) hb
   ·exact h.wlt b (by rw [← hwho b hv];exact hb)
  ·intro d g cells hd
   obtain⟨b,cs,E,k1,k2,k3,k4,k5⟩:=h.jB d g cells hd
   refine⟨b,cs,E,k1,?_,k3,ak.ext e _ _ k4,k5⟩
   refine (hwho b fun hv=>?_).trans k2
   have:=(hlt b hv).1
   rw [k2] at this;cases this
  ·intro σ t' ht'
   by_cases hs:σ=τ
   ·subst hs
    rw [dh] at ht';cases ht'
    exact⟨v,h1,fun _=>⟨hRV,fun b hb=>(hnew b hb).1,hLF⟩,nofun⟩
   ·rw [gG s _ hs] at ht'
    obtain⟨u,k1,k2,k3⟩:=h.toks σ t' ht'
    refine⟨u,k1,fun hf=>⟨(k2 hf).1.mono (fun _ hi=>.inl hi) (fun _ _ _=>rfl),(k2 hf).2.1,(k2 hf).2.2.keep (fun _ hi=>.inl hi) (fun b hi=>hlin b _ hi) (fun _ _=>rfl)⟩,fun hf=>?_⟩
    obtain⟨k4,kgd,ys,k5,k6,k7,k8,k9⟩:=k3 hf
    refine⟨k4,kgd,ys,k5,k6.mono (fun _ hi=>.inl hi) (fun _ _ _=>rfl),fun b hb=>?_,k8,k9.keep (fun _ hi=>.inl hi) (fun b hi=>hlin b _ hi) (fun _ _ _=>rfl)⟩
    refine (hwho b fun hv=>?_).trans (k7 b hb)
    have:=(hlt b hv).1
    rw [k7 b hb] at this;cases this
    exact hs rfl
theorem Gam.freeze (h:Gam T L w0 I0 s a w c) {τ:Nat} {t:Tok} (ht:s.tok τ=some t):
  ∃c' v,Gam T L w0 I0 (s.aS τ { t with frz:=true }) a w c'∧Ext L c s.tok s.mem w c' (s.aS τ { t with frz:=true }).tok s.mem w∧c.ω τ=some v∧aF c'.I w L (.sl t.l) v:=by
 obtain⟨c',v,h1,h2,h3,h4,_⟩:=h.PU ht
 exact⟨c',v,h1,h2,h3,h4⟩
theorem Ext.refl (L:Nat) (c:Cx) (tok:Nat→Option Tok) (mem:Nat→Option (Nat×List SV)) (w:World):Ext L c tok mem w c tok mem w:=
 ⟨fun _ hi=>hi,fun _ hj=>hj,rfl,rfl,rfl,rfl,fun _ _ _=>rfl,fun _ _ _ _=>rfl,fun _=>Turned.refl _ _,fun _ t ht=>⟨t,ht,Nat.le_refl _,fun _=>⟨rfl,rfl⟩⟩,fun _ g cells hd=>⟨g,cells,hd,Nat.le_refl _,fun _=>rfl⟩⟩
theorem Ext.trans {L:Nat} {c c1 c2:Cx} {tok Xt Xu:Nat→Option Tok} {mem mem1 mem2:Nat→Option (Nat×List SV)} {w w1 w2:World}
  (h:Ext L c tok mem w c1 Xt mem1 w1) (k:Ext L c1 Xt mem1 w1 c2 Xu mem2 w2):Ext L c tok mem w c2 Xu mem2 w2:=by
 refine⟨fun b hi=>k.hI b (h.hI b hi),fun b hi=>k.hJ b (h.hJ b hi),k.hmt.trans h.hmt,k.hbase.trans h.hbase,k.hAs.trans h.hAs,k.hO.trans h.hO,fun b o hi=>(k.hw b o (hi.imp (h.hI b) (h.hJ b))).trans (h.hw b o hi),fun hf b o ho=>(k.hf (h.hmt.trans hf) b o (h.hO ▸ ho)).trans (h.hf hf b o ho),fun ht b o v ho hv=>?_,fun τ t ht=>?_,fun d g cells hd=>?_⟩
 ·exact (h.ht ht).trans (fun b o v ho hv=>k.ht (h.hmt.trans ht) b o v (h.hO ▸ ho) hv) b o v ho hv
 ·obtain⟨t1,a1,a2,a3⟩:=h.QJ τ t ht
  obtain⟨t2,b1,b2,b3⟩:=k.QJ τ t1 a1
  refine⟨t2,b1,Nat.le_trans a2 b2,fun e=>?_⟩
  have e1:=a3 (by omega)
  have e2:=b3 (by omega)
  exact⟨e2.1.trans e1.1,e2.2.trans e1.2⟩
 ·obtain⟨g1,c1',a1,a2,a3⟩:=h.hmem d g cells hd
  obtain⟨g2,c2',b1,b2,b3⟩:=k.hmem d g1 c1' a1
  exact⟨g2,c2',b1,Nat.le_trans a2 b2,fun e=>(b3 (by omega)).trans (a3 (by omega))⟩
theorem Gam.RY (h:Gam T L w0 I0 s a w c) {d g off:Nat} {cells new:List SV} {vs:List Value} (hd:s.mem d=some (g,cells)) (hnew:ak T c s.tok s.mem w L new vs) (hn:fU vs) (_hfit:off+new.length≤cells.length):
  ∃b cs E c',c.β d=some b∧w.heap[b]? =some (.cells (List.toArray cs) E (0,0))∧cs.length=cells.length∧
   Gam T L w0 I0 (s.bU d g (splice cells off new)) a (w.setRow b (cs.take off++vs++cs.drop (off+vs.length)).toArray) c':=by
 obtain⟨b,cs,E,h1,h2,h3,h4,h5⟩:=h.jB d g cells hd
 have hlen:=(ak.all2.1 h4).length
 have vC:=(ak.all2.1 hnew).length
 refine⟨b,cs,E,c,h1,h3,hlen.symm,?_⟩
 have hb:=h.wlt b (by simp [h2])
 generalize hcs':cs.take off++vs++cs.drop (off+vs.length)=cs'
 have hblk:∀k,k≠b→(w.setRow b cs'.toArray).heap[k]? =w.heap[k]? :=fun k hk=>by
  simp only [World.setRow,Array.getElem?_modify,if_neg (Ne.symm hk)]
 have hself:(w.setRow b cs'.toArray).heap[b]? =some (.cells cs'.toArray E (0,0)):=by
  simp only [World.setRow,Array.getElem?_modify,if_true,h3,Option.map_some]
 have hcell:∀k o,c.I k→(w.setRow b cs'.toArray).cell? ⟨k,o,none⟩=w.cell? ⟨k,o,none⟩:=fun k o hi=>
  World.cell?_of_block (hblk k (fun e=>by subst e;have:=h.jV k hi;rw [h2] at this;cases this))
 have e:Ext L c s.tok s.mem w c s.tok (s.bU d g (splice cells off new)).mem (w.setRow b cs'.toArray):=by
  have sV:∀k o,c.J k→(w.setRow b cs'.toArray).cell? ⟨k,o,none⟩=w.cell? ⟨k,o,none⟩:=fun k o hj=>World.cell?_of_block (hblk k (fun e=>by subst e;have:=h.bo.2.1 k (.inl hj);rw [h2] at this;cases this))
  have pU:∀k o,c.O k→(w.setRow b cs'.toArray).cell? ⟨k,o,none⟩=w.cell? ⟨k,o,none⟩:=fun k o hj=>World.cell?_of_block (hblk k (fun e=>by subst e;have:=h.bo.2.1 k (.inr hj);rw [h2] at this;cases this))
  refine⟨fun _ hi=>hi,fun _ hj=>hj,rfl,rfl,rfl,rfl,fun k o hi=>hi.elim (hcell k o) (sV k o),fun _=>pU,fun _=>Turned.same pU,fun τ t ht=>⟨t,ht,Nat.le_refl _,fun _=>⟨rfl,rfl⟩⟩,fun d' g' cells' hd'=>?_⟩
  by_cases hdd:d'=d
  ·subst hdd
   rw [hd] at hd';cases hd'
   exact⟨g,_,dN s d' g _,Nat.le_refl _,fun _=>rfl⟩
  ·exact⟨g',cells',by rw [eZ s g _ hdd];exact hd',Nat.le_refl _,fun _=>rfl⟩
 have hsz:(w.setRow b cs'.toArray).heap.size=w.heap.size:=by simp [World.setRow]
 have hOb:∀k,c.O k→k≠b:=fun k ho e=>by subst e;have:=h.bo.2.1 k (.inr ho);rw [h2] at this;cases this
 have hbo:QK w0 I0 c (s.bU d g (splice cells off new)).mem:=by
  refine⟨h.bo.1,h.bo.2.1,fun i g' cells' hm=>?_⟩
  by_cases hdd:1000000+i=d
  ·exact h.bo.2.2 i g cells (by rw [hdd];exact hd)
  ·rw [eZ s g _ hdd] at hm;exact h.bo.2.2 i g' cells' hm
 refine⟨?_,h.vv,h.LG fun k hi=>hblk k (fun e=>by subst e;have:=h.jV k hi;rw [h2] at this;cases this),?_,h.jlt,h.jV,h.olt,h.UE fun k ho=>hblk k (hOb k ho),h.ij,?_,h.size,h.defers,h.om,h.ob,hbo,fun i=>ah.ext e _ _ (h.slots i),?_,?_⟩
 ·refine⟨h.below.os,h.below.tape,h.below.output,by rw [hsz];exact h.below.size,fun k hk hm hB=>?_,h.below.cell.trans (Turned.same fun k o hm=>World.cell?_of_block (hblk k (hOb k hm.1))),fun k hm ht=>(h.below.thaw k hm ht).same (hblk k (hOb k hm.1)),h.below.drawn⟩
  rw [hblk k (fun e=>by subst e;exact hb.1.elim (fun h=>by omega) hB)]
  exact h.below.sU k hk hm hB
 ·intro k hi;rw [hsz];exact h.ilt k hi
 ·intro k hi;rw [hsz];exact h.wlt k hi
 ·intro d' g' cells' hd'
  by_cases hdd:d'=d
  ·subst hdd
   rw [dN] at hd';cases hd'
   refine⟨b,cs',E,h1,h2,hself,ak.ext e _ _ (ak.all2.2 ?_),?_⟩
   ·rw [← hcs',splice,vC]
    exact ((ak.all2.1 h4).take off |>.append (ak.all2.1 hnew)).append ((ak.all2.1 h4).drop _)
   ·intro u hu
    rw [← hcs'] at hu
    simp only [List.mem_append] at hu
    rcases hu with (hu|hu)|hu
    ·exact h5 u (List.mem_of_mem_take hu)
    ·exact hn u hu
    ·exact h5 u (List.mem_of_mem_drop hu)
  ·rw [eZ s g _ hdd] at hd'
   obtain⟨b',cs2,E',k1,k2,k3,k4,k5⟩:=h.jB d' g' cells' hd'
   refine⟨b',cs2,E',k1,k2,?_,ak.ext e _ _ k4,k5⟩
   rw [hblk b' (fun e=>by subst e;rw [h2] at k2;cases k2;exact hdd rfl)]
   exact k3
 ·intro τ t ht
  obtain⟨v,k1,k2,k3⟩:=h.toks τ t ht
  refine⟨v,k1,fun hf=>⟨(k2 hf).1.mono (fun _ hi=>hi) hcell,(k2 hf).2.1,(k2 hf).2.2.keep (fun _ h=>h) (fun _ _ h=>h) fun k hi=>hblk k (fun e=>by subst e;have:=h.jV k hi;rw [h2] at this;cases this)⟩,fun hf=>?_⟩
  obtain⟨k4,kgd,xs,k5,k6,k7,k8,k9⟩:=k3 hf
  refine⟨k4,kgd,xs,?_,k6.mono (fun _ hi=>hi) hcell,k7,k8,k9.keep (fun _ h=>h) (fun _ _ h=>h) hcell⟩
  refine k5.kept (row:=some b) ⟨rfl,rfl,rfl,by omega,fun k _ hk=>hblk k (fun e=>hk (by rw [e]))⟩ ?_
  cases hub:v.ownBlock with
  |none=>exact .inl rfl
  |some k=>
   refine .inr fun e=>?_
   cases e
   have:=k7 b hub
   rw [h2] at this;cases this
theorem Jm (s:St) (τ:Nat) (t u:Tok):(s.aS τ t).aS τ u=s.aS τ u:=by
 simp only [St.aS]
 congr 1
 funext i
 cases Nat.beq i τ<;>rfl
theorem HV {s:St} {τ:Nat} {t:Tok} (h:s.tok τ=some t):s.aS τ t=s:=by
 simp only [St.aS]
 congr 1
 funext i
 by_cases hi:i=τ
 ·subst hi;simp [h]
 ·simp [lM hi]
theorem Gam.take (h:Gam T L w0 I0 s a w c) {τ σ:Nat} {t:Tok} (ht:s.tok σ=some t) (hne:σ≠τ):
  ∃c',Gam T L w0 I0 (s.aS σ { t with lin:=false }) a w c'∧Ext L c s.tok s.mem w c' (s.aS σ { t with lin:=false }).tok s.mem w∧c'.I=c.I∧c'.ω=c.ω∧c'.who=c.who∧
   (∀b,c.lin b=some σ→c'.lin b=some τ)∧(∀b ρ,ρ≠σ→c.lin b=some ρ→c'.lin b=some ρ):=by
 let vB:Nat→Option Nat:=fun b=>if c.lin b=some σ then some τ else c.lin b
 have hl:∀b ρ,ρ≠σ→c.lin b=some ρ→vB b=some ρ:=fun b ρ hr hb=>by
  simp only [vB,hb]
  rw [if_neg (fun e=>hr (Option.some.inj e))]
 let c':Cx:={ c with lin:=vB }
 have e:Ext L c s.tok s.mem w c' (s.aS σ { t with lin:=false }).tok s.mem w:=by
  refine⟨fun _ h=>h,fun _ h=>h,rfl,rfl,rfl,rfl,fun _ _ _=>rfl,fun _ _ _ _=>rfl,fun _=>Turned.refl _ _,fun ρ t' ht'=>?_,fun d g cells hd=>⟨g,cells,hd,Nat.le_refl _,fun _=>rfl⟩⟩
  by_cases hs:ρ=σ
  ·subst hs
   rw [ht] at ht';cases ht'
   exact⟨_,dh s ρ _,Nat.le_refl _,fun _=>⟨rfl,rfl⟩⟩
  ·exact⟨t',by rw [gG s _ hs];exact ht',Nat.le_refl _,fun _=>⟨rfl,rfl⟩⟩
 refine⟨c',⟨h.below,h.vv,h.wR,h.ilt,h.jlt,h.jV,h.olt,h.ofz,h.ij,h.wlt,h.size,h.defers,h.om,h.ob,h.bo.eq (fun _=>.inl rfl) rfl rfl rfl,fun i=>ah.ext e _ _ (h.slots i),fun d g cells hd=>?_,fun ρ t' ht'=>?_⟩,e,rfl,rfl,rfl,fun b hb=>by simp only [c',vB,if_pos hb],hl⟩
 ·obtain⟨b,cs,E,k1,k2,k3,k4,k5⟩:=h.jB d g cells hd
  exact⟨b,cs,E,k1,k2,k3,ak.ext e _ _ k4,k5⟩
 ·by_cases hs:ρ=σ
  ·subst hs
   rw [dh] at ht';cases ht'
   obtain⟨u,k1,k2,k3⟩:=h.toks ρ t ht
   exact⟨u,k1,fun hf=>⟨(k2 hf).1,(k2 hf).2.1,nofun⟩,fun hf=>by
    obtain⟨k4,kgd,ys,k5,k6,k7,k8,_⟩:=k3 hf
    exact⟨k4,kgd,ys,k5,k6,k7,k8,nofun⟩⟩
  ·rw [gG s _ hs] at ht'
   obtain⟨u,k1,k2,k3⟩:=h.toks ρ t' ht'
   exact⟨u,k1,fun hf=>⟨(k2 hf).1,(k2 hf).2.1,(k2 hf).2.2.keep (fun _ h=>h) (fun b _ hb=>hl b ρ hs hb) (fun _ _=>rfl)⟩,fun hf=>by
    obtain⟨k4,kgd,ys,k5,k6,k7,k8,k9⟩:=k3 hf
    exact⟨k4,kgd,ys,k5,k6,k7,k8,k9.keep (fun _ h=>h) (fun b _ hb=>hl b ρ hs hb) (fun _ _ _=>rfl)⟩⟩
theorem Gam.YN (h:Gam T L w0 I0 s a w c) (τ:Nat) (bs:List Nat) (hb:∀b∈bs,w0.heap.size≤b∧b < w.heap.size∧eX w b∧c.who b=none∧¬ c.I b):
  ∃c',Gam T L w0 I0 s a w c'∧Ext L c s.tok s.mem w c' s.tok s.mem w∧(∀b,c'.I b↔c.I b∨b∈bs)∧c'.ω=c.ω∧c'.who=c.who∧(∀b∈bs,c'.lin b=some τ):=by
 let vB:Nat→Option Nat:=fun b=>if b∈bs then some τ else c.lin b
 have hl:∀b ρ,c.I b→c.lin b=some ρ→vB b=some ρ:=fun b ρ hi hr=>by
  simp only [vB]
  rw [if_neg fun hm=>(hb b hm).2.2.2.2 hi];exact hr
 let c':Cx:={ c with I:=fun b=>c.I b∨b∈bs,lin:=vB }
 have e:Ext L c s.tok s.mem w c' s.tok s.mem w:=⟨fun _ h=>.inl h,fun _ h=>h,rfl,rfl,rfl,rfl,fun _ _ _=>rfl,fun _ _ _ _=>rfl,fun _=>Turned.refl _ _,fun ρ t' ht'=>⟨t',ht',Nat.le_refl _,fun _=>⟨rfl,rfl⟩⟩,fun d g cells hd=>⟨g,cells,hd,Nat.le_refl _,fun _=>rfl⟩⟩
 refine⟨c',⟨h.below,fun b hi=>.inl (h.vv b hi),?_,?_,h.jlt,?_,h.olt,h.ofz,?_,h.wlt,h.size,h.defers,h.om,h.ob,h.bo.eq (fun _=>.inl rfl) rfl rfl rfl,fun i=>ah.ext e _ _ (h.slots i),fun d g cells hd=>?_,fun ρ t' ht'=>?_⟩,e,fun _=>Iff.rfl,rfl,rfl,fun b hm=>by simp only [c',vB,if_pos hm]⟩
 ·rintro b (hi|hi)
  ·exact h.wR b hi
  ·exact .inr ⟨(hb b hi).1,(hb b hi).2.2.1⟩
 ·rintro b (hi|hi)
  ·exact h.ilt b hi
  ·exact (hb b hi).2.1
 ·rintro b (hi|hi)
  ·exact h.jV b hi
  ·exact (hb b hi).2.2.2.1
 ·rintro hm b ((hi|hi)|hi) ho
  ·exact h.ij hm b (.inl hi) ho
  ·have:=h.olt b ho;have:=(hb b hi).1;omega
  ·exact h.ij hm b (.inr hi) ho
 ·obtain⟨b,cs,E,k1,k2,k3,k4,k5⟩:=h.jB d g cells hd
  exact⟨b,cs,E,k1,k2,k3,ak.ext e _ _ k4,k5⟩
 ·obtain⟨u,k1,k2,k3⟩:=h.toks ρ t' ht'
  exact⟨u,k1,fun hf=>⟨(k2 hf).1.mono (fun _ h=>.inl h) (fun _ _ _=>rfl),(k2 hf).2.1,(k2 hf).2.2.keep (fun _ h=>.inl h) (fun b hi=>hl b ρ hi) (fun _ _=>rfl)⟩,fun hf=>by
   obtain⟨k4,kgd,ys,k5,k6,k7,k8,k9⟩:=k3 hf
   exact⟨k4,kgd,ys,k5,k6.mono (fun _ h=>.inl h) (fun _ _ _=>rfl),k7,k8,k9.keep (fun _ h=>.inl h) (fun b hi=>hl b ρ hi) (fun _ _ _=>rfl)⟩⟩
end
open Go.RowKit
def xO (I:Nat→Prop) (w:World) (L:Nat):SV→Value→Prop
 | .data a,v=>aF I w L a v
 | .aj,v=>v= .slice none 0 0
 |_,_=>False
def lN (I J O:Nat→Prop) (mt:Bool) (w:World) (L:Nat):AR→Value→Prop
 | .d a,v=>aF I w L a v
 | .ref a,v=>rF I J w L a v
 | .old a,v=>a.mdv mt=true∧aF O w L a v
 | .fn f caps,v=>∃vs:List Value,v= .func (.func f) #[] vs.toArray∧aN (rF I J w L) caps vs
 | .lend _,_=>False
 | .bx cells,v=>∃(b:Nat) (cs:List Value) (E:TypeId),v= .pointer (some ⟨b,0,none⟩)∧w.heap[b]? =some (.cells (List.toArray cs) E (0,0))∧aN (xO I w L) cells cs∧fU cs∧¬ I b∧¬ J b∧¬ O b
section
variable (T:Nat→Ty) (L base:Nat) (us:List Value) (I:Nat→Prop) (w:World)
mutual
def dD:RV→Value→List Nat→Prop
 | .d a,v,bs=>bs= []∧aF I w L a v
 | .aj,v,bs=>bs= []∧v= .slice none 0 0
 | .junk,v,bs=>bs= []
 | .eff _ _ _,_,_=>False
 | .ptr _,_,_=>False
 | .fr l,v,bs=>bs= []∧aF I w L (.sl l) v∧∀b,v.ownBlock=some b→base≤b
 | .own E l,v,bs=>bs=v.ownBlock.toList∧l.length≤L∧(T E).good=true∧(∀x∈l,bF (T E).zero x.cells=true)∧∃xs,w.ownsRow base E (T E).size v l.length xs∧aZ I w L (T E).size l xs
 | .lin E l,v,bs=>l.length≤L∧(T E).good=true∧(∀x∈l,bF (T E).zero x.cells=true)∧∃xs bs',bs=v.ownBlock.toList++bs'∧w.ownsRow base E (T E).size v l.length xs∧aZ (fun b=>b∈bs') w L (T E).size l xs∧bV w (T E).size l xs bs'∧∀b∈bs',eX w b
 | .agg l,v,bs=>∃vs:List Value,v= .agg vs.toArray∧iX l vs bs∧fU vs
 | .tup l,v,bs=>∃vs:List Value,v= .tuple vs.toArray∧iX l vs bs
 | .arg i off n,v,bs=>bs= []∧∃cs:List Value,us[i]? =some (.agg cs.toArray)∧v= .agg ((cs.drop off).take n).toArray
def iX:List RV→List Value→List Nat→Prop
 |[],vs,bs=>vs= []∧bs= []
 |r::rs,vs,bs=>∃u us b1 b2,vs=u::us∧bs=b1++b2∧dD r u b1∧iX rs us b2
end
end
def Post (T:Nat→Ty) (L:Nat) (I M:Nat→Prop) (w:World) (us:List Value) (r:RV) (e:Ending) (w':World):Prop:=
 match r with
 | .eff i r' cs=>∃v,e= .returned v∧∃b,us[i]? =some (.pointer (some ⟨b,0,none⟩))∧Turn M w w' (fun k=>k=b)∧∃(I':Nat→Prop) (bs:List Nat) (vs:List Value) (E:TypeId),(∀b,I b→I' b)∧(∀b,I' b→I b∨(w.heap.size≤b∧b < w'.heap.size∧eX w' b))∧
  bs.Nodup∧(∀b∈bs,¬ I' b∧w.heap.size≤b∧b < w'.heap.size)∧w'.heap[b]? =some (.cells (List.toArray vs) E (0,0))∧fU vs∧iX T L w.heap.size us I' w' (r'::cs) (v::vs) bs
 | .ptr cs=>∃b,e= .returned (.pointer (some ⟨b,0,none⟩))∧Turn M w w'∧∃(I':Nat→Prop) (vs:List Value) (E:TypeId),(∀b,I b→I' b)∧(∀b,I' b→I b∨(w.heap.size≤b∧b < w'.heap.size∧eX w' b))∧
  ¬ I' b∧w.heap.size≤b∧w'.heap[b]? =some (.cells (List.toArray vs) E (0,0))∧fU vs∧aN (aF I' w' L) cs vs
 |r=>∃v,e= .returned v∧Turn M w w'∧∃(I':Nat→Prop) (bs:List Nat),(∀b,I b→I' b)∧(∀b,I' b→I b∨(w.heap.size≤b∧b < w'.heap.size∧eX w' b))∧
  bs.Nodup∧(∀b∈bs,¬ I' b∧w.heap.size≤b∧b < w'.heap.size)∧dD T L w.heap.size us I' w' r v bs
theorem Ej {T:Nat→Ty} {L:Nat} {I M:Nat→Prop} {w:World} {us:List Value} {r:RV} {e:Ending} {w':World} (h:r.uZ=false):Post T L I M w us r e w'=
   (∃v,e= .returned v∧Turn M w w'∧∃(I':Nat→Prop) (bs:List Nat),(∀b,I b→I' b)∧(∀b,I' b→I b∨(w.heap.size≤b∧b < w'.heap.size∧eX w' b))∧
    bs.Nodup∧(∀b∈bs,¬ I' b∧w.heap.size≤b∧b < w'.heap.size)∧dD T L w.heap.size us I' w' r v bs):=by
  cases r<;>first|rfl|cases h
def Contract (P:Program) (T:Nat→Ty) (L f:Nat) (args:List AR) (r:RV):Prop:=
 (∀(vs:Array Value) (w:World),(callFunc f vs).run P w= .ok (.enter f vs) w)∧
 ∀(I J O:Nat→Prop) (mt:Bool) (w:World) (vs:List Value),(∀b,I b→b < w.heap.size)→(∀b,J b→b < w.heap.size)→(∀b,O b→b < w.heap.size)→(mt=true→∀b,O b→eX w b)→(mt=true→∀b,I b∨J b→¬ O b)→aN (lN I J O mt w L) args vs→Calls P f vs.toArray w (Post T L I (fun b=>O b∧mt=true) w vs r)
section
variable {I J:Nat→Prop} {w:World} {L:Nat}
mutual
theorem aD.wf:∀(a:AV) (v:Value),aD I w L a v→AV.wf L a
 | .bool _,_,_=>by simp [AV.wf]
 | .int _ _,_,_=>by simp [AV.wf]
 | .str _,_,_=>by simp [AV.wf]
 | .any,_,_=>by simp [AV.wf]
 | .sl l,v,h=>by
  simp only [aD] at h
  obtain⟨a,cap,_,h1,_,h3⟩:=h
  simp only [AV.wf]
  refine⟨h1,?_⟩
  rcases h3 with h3|⟨b,o,sz,_,_,h4⟩
  ·rw [List.eq_nil_of_length_eq_zero h3];simp [AV.wfs]
  ·exact bI.wf b sz l o h4
 | .agg _,_,h=>by simp [aD] at h
theorem bI.wf (b sz:Nat):∀(l:List AV) (o:Nat),bI I w L b sz l o→AV.wfs L l
 |[],_,_=>by simp [AV.wfs]
 |x::xs,o,h=>by
  simp only [bI] at h
  simp only [AV.wfs]
  exact⟨dV.wf b sz x o h.1,bI.wf b sz xs _ h.2⟩
theorem dV.wf (b sz:Nat):∀(x:AV) (o:Nat),dV I w L b sz x o→AV.wf L x
 | .agg l,o,h=>by simp only [dV] at h;simp only [AV.wf];exact aX.wf b l o h.2
 | .bool _,_,_=>by simp [AV.wf]
 | .int _ _,_,_=>by simp [AV.wf]
 | .str _,_,_=>by simp [AV.wf]
 | .any,_,_=>by simp [AV.wf]
 | .sl l,o,h=>by
  simp only [dV] at h
  obtain⟨_,v,_,a,cap,_,h1,_,h3⟩:=h
  simp only [AV.wf]
  refine⟨h1,?_⟩
  rcases h3 with h3|⟨b,o,sz,_,_,h4⟩
  ·rw [List.eq_nil_of_length_eq_zero h3];simp [AV.wfs]
  ·exact bI.wf b sz l o h4
theorem aX.wf (b:Nat):∀(l:List AV) (o:Nat),aX I w L b l o→AV.wfs L l
 |[],_,_=>by simp [AV.wfs]
 |x::xs,o,h=>by
  simp only [aX] at h
  obtain⟨⟨v,_,h2⟩,h3⟩:=h
  simp only [AV.wfs]
  exact⟨aD.wf x v h2,aX.wf b xs _ h3⟩
end
theorem aN.wfs:∀{l:List AV} {vs:List Value},aN (aD I w L) l vs→AV.wfs L l
 |[],[],_=>by simp [AV.wfs]
 |x::xs,_::_,h=>by simp only [AV.wfs];exact⟨aD.wf x _ h.1,aN.wfs h.2⟩
 |[],_::_,h=>h.elim
 |_::_,[],h=>h.elim
theorem aF.wf {a:AV} {v:Value} (h:aF I w L a v):AV.wf L a:=by
 cases a with
 |agg l=>obtain⟨cs,_,h2⟩:=h;simp only [AV.wf];exact h2.wfs
 |sl l=>exact aD.wf _ _ h
 |bool b=>simp [AV.wf]
 |int k n=>simp [AV.wf]
 |str s=>simp [AV.wf]
 |any=>simp [AV.wf]
theorem rF.wf {a:AV} {v:Value} (h:rF I J w L a v):AV.wfs L a.cells:=by
 obtain⟨b,o,_,_,h3⟩:=h
 exact aX.wf b _ _ h3
end
def RV.wf (L:Nat):RV→Prop
 | .d a=>a.wf L
 | .fr l=>AV.wf L (.sl l)
 |_=>True
def UF (L:Nat):List SV→Prop
 |[]=>True
 | .data a::r=>a.wf L∧UF L r
 |_::r=>UF L r
def AR.wf (L:Nat):AR→Prop
 | .d a=>a.wf L
 | .ref a=>AV.wfs L a.cells
 | .old a=>a.wf L
 | .fn _ _=>True
 | .lend _=>True
 | .bx cells=>UF L cells
def ARs.wf (L:Nat):List AR→Prop
 |[]=>True
 |x::xs=>AR.wf L x∧ARs.wf L xs
theorem xO.wfs {I:Nat→Prop} {w:World} {L:Nat}:∀{l:List SV} {vs:List Value},aN (xO I w L) l vs→UF L l
 |[],[],_=>trivial
 |x::xs,_::_,h=>by
  have ih:=xO.wfs h.2
  have h1:=h.1
  cases x with
  |data a=>exact⟨aF.wf h1,ih⟩
  |_=>exact ih
 |[],_::_,h=>h.elim
 |_::_,[],h=>h.elim
theorem xO.mono {I I':Nat→Prop} {w:World} {L:Nat} (hI:∀b,I b→I' b) {x:SV} {v:Value} (h:xO I w L x v):xO I' w L x v:=by
 cases x with
 |data a=>exact aF.mono hI (fun _ _ _=>rfl) h
 |aj=>exact h
 |_=>exact h.elim
theorem lN.wfs {I J O:Nat→Prop} {mt:Bool} {w:World} {L:Nat}:∀{l:List AR} {vs:List Value},aN (lN I J O mt w L) l vs→ARs.wf L l
 |[],[],_=>by simp [ARs.wf]
 |x::xs,v::_,h=>by
  simp only [ARs.wf]
  refine⟨?_,lN.wfs h.2⟩
  cases x with
  |d a=>exact aF.wf h.1
  |ref a=>exact rF.wf h.1
  |old a=>exact aF.wf h.1.2
  |fn f caps=>trivial
  |lend a=>trivial
  |bx cells=>obtain⟨b,cs,E,_,_,h4,_⟩:=h.1;exact xO.wfs h4
 |[],_::_,h=>h.elim
 |_::_,[],h=>h.elim
inductive dO (P:Program) (T:Nat→Ty) (L f:Nat) (args:List AR) (K:RV→Prop):Prop
 |mk (r:RV) (h:Contract P T L f args r) (k:r.wf L→K r)
section
variable {T:Nat→Ty} {L:Nat} {w0:World} {I0:Bs} {a:Act} {w:World}
theorem qQ {s:St} {c:Cx} {x:SV} {v:Value} {K:AV→St→Prop} (h:Gam T L w0 I0 s a w c) (hx:ah T c s.tok s.mem w L x v) (he:erase s x K):
  ∃b s' c',K b s'∧Gam T L w0 I0 s' a w c'∧Ext L c s.tok s.mem w c' s'.tok s'.mem w∧aF c'.I w L b v:=by
 cases x with
 |data b=>exact⟨b,s,c,he,h,Ext.refl _ _ _ _ _,by simpa [ah] using hx⟩
 |aj=>
  refine⟨.sl [],s,c,he,h,Ext.refl _ _ _ _ _,?_⟩
  simp only [ah] at hx
  subst hx
  simp only [aF,aD]
  exact⟨none,0,rfl,Nat.zero_le _,Nat.le_refl _,.inl rfl⟩
 |fr l=>
  simp only [ah] at hx
  exact⟨.sl l,s,c,he,h,Ext.refl _ _ _ _ _,hx.1⟩
 |argv i j b=>
  simp only [ah] at hx
  exact⟨b,s,c,he,h,Ext.refl _ _ _ _ _,hx.1⟩
 |own τ g=>
  simp only [erase] at he
  cases ht:s.tok τ with
  |none=>simp [ht] at he
  |some t=>
   simp only [ht] at he
   cases hg:Nat.beq t.gen g with
   |false=>simp [hg] at he
   |true=>
    simp only [hg,cond_true] at he
    have hgg:=Nat.eq_of_beq_eq_true hg
    simp only [ah] at hx
    obtain⟨t',h1,h2,h3⟩:=hx
    rw [ht] at h1;cases h1
    obtain⟨c',u,k1,k2,k3,k4⟩:=h.freeze ht
    rw [h3 hgg.symm] at k3;cases k3
    exact⟨_,_,c',he,k1,k2,k4⟩
 |_=>simp [erase] at he
theorem aF.RZ {I:Nat→Prop} {b:AV} {v:Value} (h:aF I w L b v) (hv:v.oneCell'=true):aD I w L b v:=by
 cases b with
 |agg l=>obtain⟨cs,rfl,_⟩:=h;simp [Value.oneCell'] at hv
 |sl l=>exact h
 |bool b=>simpa [aD,aF] using h
 |int k n=>simpa [aD,aF] using h
 |str s=>simpa [aD,aF] using h
 |any=>simpa [aD,aF] using h
theorem sW {s:St} {c:Cx}:∀{l:List SV} {vs:List Value} {K:List AV→St→Prop},Gam T L w0 I0 s a w c→ak T c s.tok s.mem w L l vs→lH s l K→
  ∃bs s' c',K bs s'∧Gam T L w0 I0 s' a w c'∧Ext L c s.tok s.mem w c' s'.tok s'.mem w∧aN (aF c'.I w L) bs vs:=by
 intro l
 induction l generalizing s c with
 |nil=>
  intro vs K h hl he
  simp only [ak] at hl;subst hl
  exact⟨[],s,c,he,h,Ext.refl _ _ _ _ _,trivial⟩
 |cons x xs ih=>
  intro vs K h hl he
  simp only [ak] at hl
  obtain⟨u,us,rfl,h2,h3⟩:=hl
  simp only [lH] at he
  obtain⟨b,s1,c1,k1,k2,k3,k4⟩:=qQ h h2 he
  obtain⟨bs,s2,c2,m1,m2,m3,m4⟩:=ih k2 (ak.ext k3 _ _ h3) k1
  exact⟨b::bs,s2,c2,m1,m2,k3.trans m3,k4.mono m3.hI m3.hwI,m4⟩
theorem aN.ones {I:Nat→Prop}:∀{bs:List AV} {vs:List Value},aN (aF I w L) bs vs→fU vs→aN (aD I w L) bs vs
 |[],[],_,_=>trivial
 |_::_,v::_,h,hn=>⟨aF.RZ h.1 (hn v (by simp)),aN.ones h.2 (fun u hu=>hn u (by simp [hu]))⟩
 |[],_::_,h,_=>h.elim
 |_::_,[],h,_=>h.elim
theorem jW {s:St} {c:Cx} {x:SV} {v:Value} {K:AV→St→Prop} (h:Gam T L w0 I0 s a w c) (hx:ah T c s.tok s.mem w L x v) (he:kJ s x K):
  ∃b s' c',K b s'∧Gam T L w0 I0 s' a w c'∧Ext L c s.tok s.mem w c' s'.tok s'.mem w∧aF c'.I w L b v:=by
 cases x with
 |gW l=>
  simp only [kJ] at he
  simp only [ah] at hx
  obtain⟨vs,rfl,h2,h3⟩:=hx
  obtain⟨bs,s',c',k1,k2,k3,k4⟩:=sW h h2 he
  exact⟨.agg bs,s',c',k1,k2,k3,vs,rfl,k4.ones h3⟩
 |_=>exact qQ h hx (by simpa only [kJ] using he)
theorem Jo {base:Nat} {E:TypeId} {sz:Nat} {v:Value} {l:List AV} {xs:List Value} {bs:List Nat} (h:w.ownsRow base E sz v l.length xs) (k:bV w sz l xs bs):kU w (.sl l) v (v.ownBlock.toList++bs):=by
 simp only [kU]
 rcases h.2 with⟨rfl,h0⟩|⟨b,cap,cur,rfl,hb,hg,hc,hm,hs,ht⟩
 ·have:l= []:=List.eq_nil_of_length_eq_zero h0
  subst this
  obtain⟨_,rfl⟩:=k
  exact .inl ⟨rfl,rfl⟩
 ·refine .inr ⟨b,0,sz,l.length,cap,bs,rfl,rfl,k.lies fun j u hu=>?_⟩
  have:=h.cells (g:=b) rfl j u hu
  rw [Addr.add_lit] at this
  simpa using this
def nZ (τ base:Nat) (c d:Cx) (bs:List Nat):Prop:=bs.Nodup∧∀b∈bs,d.I b∧d.lin b=some τ∧base≤b∧¬(c.I b∧c.lin b=some τ)
def Kept (τ:Nat) (c d:Cx):Prop:=∀b,c.I b→c.lin b=some τ→d.lin b=some τ
theorem Kept.refl (τ:Nat) (c:Cx):Kept τ c c:=fun _ _ h=>h
theorem nZ.nil (τ base:Nat) (c d:Cx):nZ τ base c d []:=⟨List.nodup_nil,fun b hb=>by simp at hb⟩
theorem nZ.append {τ base:Nat} {c d e:Cx} {b1 b2:List Nat} (h:nZ τ base c d b1) (k:nZ τ base d e b2) (h1:∀b,c.I b→d.I b) (h2:∀b,d.I b→e.I b) (k1:Kept τ c d) (k2:Kept τ d e):nZ τ base c e (b1++b2):=by
 refine⟨List.nodup_append.2 ⟨h.1,k.1,fun x hx y hy he=>?_⟩,fun b hb=>?_⟩
 ·subst he
  exact (k.2 x hy).2.2.2 ⟨(h.2 x hx).1,(h.2 x hx).2.1⟩
 ·rcases List.mem_append.1 hb with hb|hb
  ·obtain⟨a1,a2,a3,a4⟩:=h.2 b hb
   exact⟨h2 b a1,k2 b a1 a2,a3,a4⟩
  ·obtain⟨a1,a2,a3,a4⟩:=k.2 b hb
   exact⟨a1,a2,a3,fun hc=>a4 ⟨h1 b hc.1,k1 b hc.1 hc.2⟩⟩
theorem Ca {s:St} {c:Cx} {τ:Nat} {x:SV} {v:Value} {K:AV→Bool→St→Prop} (h:Gam T L w0 I0 s a w c) (hx:ah T c s.tok s.mem w L x v) (he:take1 τ s x K):
  ∃b q s' c',K b q s'∧Gam T L w0 I0 s' a w c'∧Ext L c s.tok s.mem w c' s'.tok s'.mem w∧aF c'.I w L b v∧Kept τ c c'∧(q=true→∃bs,kU w b v bs∧nZ τ w0.heap.size c c' bs):=by
 cases x with
 |data b=>exact⟨b,_,s,c,he,h,Ext.refl _ _ _ _ _,by simpa [ah] using hx,Kept.refl _ _,fun hq=>⟨[],Hz hq,nZ.nil _ _ _ _⟩⟩
 |aj=>
  refine⟨.sl [],_,s,c,he,h,Ext.refl _ _ _ _ _,?_,Kept.refl _ _,fun _=>⟨[],.inl ⟨rfl,rfl⟩,nZ.nil _ _ _ _⟩⟩
  simp only [ah] at hx
  subst hx
  simp only [aF,aD]
  exact⟨none,0,rfl,Nat.zero_le _,Nat.le_refl _,.inl rfl⟩
 |fr l=>
  simp only [ah] at hx
  exact⟨.sl l,_,s,c,he,h,Ext.refl _ _ _ _ _,hx.1,Kept.refl _ _,nofun⟩
 |own σ g=>
  simp only [take1] at he
  cases ht:s.tok σ with
  |none=>simp [ht] at he
  |some t=>
   simp only [ht] at he
   cases hg:Nat.beq t.gen g with
   |false=>simp [hg] at he
   |true=>
    simp only [hg,cond_true] at he
    have hgg:=Nat.eq_of_beq_eq_true hg
    simp only [ah] at hx
    obtain⟨t',h1,h2,h3⟩:=hx
    rw [ht] at h1;cases h1
    obtain⟨c1,u,k1,k2,k3,k4,k5,k6⟩:=h.PU ht
    rw [h3 hgg.symm] at k3;cases k3
    by_cases hst:σ=τ
    ·subst hst
     simp only [Nat.beq_refl,Bool.and_true,Bool.not_true,Bool.and_false] at he
     exact⟨_,_,_,c1,he,k1,k2,k4,k5 σ,nofun⟩
    ·rw [lM hst] at he
     simp only [Bool.and_false,Bool.not_false,Bool.and_true] at he
     obtain⟨c2,m1,m2,m3,m4,m5,m6,m7⟩:=k1.take (τ:=τ) (dh s σ _) hst
     rw [Jm] at m1 m2
     refine⟨_,_,_,c2,he,m1,k2.trans m2,by rw [m3];exact k4,fun b hb hl=>m7 b τ (Ne.symm hst) (k5 τ b hb hl),fun hq=>?_⟩
     obtain⟨_,_,xs,bs,n1,_,n2,n3,n4⟩:=k6 hq
     refine⟨v.ownBlock.toList++bs,Jo n1 n2,n3,fun b hb=>?_⟩
     obtain⟨j1,j2,j3⟩:=n4 b hb
     refine⟨by rw [m3];exact j1,m6 b j2,j3,fun hc=>?_⟩
     have:=k5 τ b hc.1 hc.2
     rw [j2] at this
     exact hst (Option.some.inj this)
 |_=>simp [take1] at he
theorem Sb {s:St} {c:Cx} {τ:Nat} {x:SV} {v:Value} {K:AV→Bool→St→Prop} (h:Gam T L w0 I0 s a w c) (hx:ah T c s.tok s.mem w L x v) (he:take1 τ s x K) (hd:∀b,x≠.data b):
  ∃b q s' c',K b q s'∧Gam T L w0 I0 s' a w c'∧Ext L c s.tok s.mem w c' s'.tok s'.mem w∧aF c'.I w L b v∧Kept τ c c'∧(q=true→∃bs,kU w b v bs∧nZ τ w0.heap.size c c' bs)∧∃l,b= .sl l:=by
 have he':take1 τ s x (fun b q s'=>K b q s'∧∃l,b= .sl l):=by
  cases x with
  |data b=>exact absurd rfl (hd b)
  |aj=>exact⟨he,_,rfl⟩
  |fr l=>exact⟨he,_,rfl⟩
  |own σ g=>
   simp only [take1] at he ⊢
   cases ht:s.tok σ with
   |none=>simp [ht] at he
   |some t=>
    simp only [ht] at he ⊢
    cases hg:Nat.beq t.gen g with
    |false=>simp [hg] at he
    |true=>simp only [hg,cond_true] at he ⊢;exact⟨he,_,rfl⟩
  |_=>simp [take1] at he
 obtain⟨b,q,s',c',⟨k1,l,k0⟩,k2,k3,k4,k5,k6⟩:=Ca h hx he'
 exact⟨b,q,s',c',k1,k2,k3,k4,k5,k6,l,k0⟩
theorem LH {s:St} {c:Cx} {τ:Nat}:∀{l:List SV} {vs:List Value} {K:List AV→Bool→St→Prop},Gam T L w0 I0 s a w c→ak T c s.tok s.mem w L l vs→wW τ s l K→
  ∃bs q s' c',K bs q s'∧Gam T L w0 I0 s' a w c'∧Ext L c s.tok s.mem w c' s'.tok s'.mem w∧aN (aF c'.I w L) bs vs∧Kept τ c c'∧(q=true→∃ls,iL w bs vs ls∧nZ τ w0.heap.size c c' ls):=by
 intro l
 induction l generalizing s c with
 |nil=>
  intro vs K h hl he
  simp only [ak] at hl;subst hl
  exact⟨[],true,s,c,he,h,Ext.refl _ _ _ _ _,trivial,Kept.refl _ _,fun _=>⟨[],⟨rfl,rfl⟩,nZ.nil _ _ _ _⟩⟩
 |cons x xs ih=>
  intro vs K h hl he
  simp only [ak] at hl
  obtain⟨u,us,rfl,h2,h3⟩:=hl
  simp only [wW] at he
  obtain⟨b,q1,s1,c1,k1,k2,k3,k4,k5,k6⟩:=Ca h h2 he
  obtain⟨bs,q2,s2,c2,m1,m2,m3,m4,m5,m6⟩:=ih k2 (ak.ext k3 _ _ h3) k1
  refine⟨b::bs,_,s2,c2,m1,m2,k3.trans m3,⟨k4.mono m3.hI m3.hwI,m4⟩,fun b hb hl=>m5 b (k3.hI b hb) (k5 b hb hl),fun hq=>?_⟩
  simp only [Bool.and_eq_true] at hq
  obtain⟨l1,n1,n2⟩:=k6 hq.1
  obtain⟨l2,n3,n4⟩:=m6 hq.2
  exact⟨l1++l2,⟨u,us,l1,l2,rfl,rfl,n1,n3⟩,n2.append n4 k3.hI m3.hI k5 m5⟩
theorem Cb {s:St} {c:Cx} {τ:Nat} {x:SV} {v:Value} {K:AV→Bool→St→Prop} (h:Gam T L w0 I0 s a w c) (hx:ah T c s.tok s.mem w L x v) (he:qP τ s x K):
  ∃b q s' c',K b q s'∧Gam T L w0 I0 s' a w c'∧Ext L c s.tok s.mem w c' s'.tok s'.mem w∧aF c'.I w L b v∧Kept τ c c'∧(q=true→∃bs,iL w b.cells v.cells.toList bs∧nZ τ w0.heap.size c c' bs):=by
 cases x with
 |gW l=>
  simp only [qP] at he
  simp only [ah] at hx
  obtain⟨vs,rfl,h2,h3⟩:=hx
  obtain⟨bs,q,s',c',k1,k2,k3,k4,k5,k6⟩:=LH h h2 he
  exact⟨.agg bs,q,s',c',k1,k2,k3,⟨vs,rfl,k4.ones h3⟩,k5,fun hq=>by simpa [AV.cells,Value.cells] using k6 hq⟩
 |data b=>
  refine⟨b,b.flat,s,c,he,h,Ext.refl _ _ _ _ _,by simpa [ah] using hx,Kept.refl _ _,fun hq=>⟨[],?_,nZ.nil _ _ _ _⟩⟩
  have hr:aF c.I w L b v:=by simpa [ah] using hx
  cases b with
  |agg l=>
   obtain⟨cs,rfl,hc⟩:=hr
   simp only [AV.flat] at hq
   simpa [AV.cells,Value.cells] using wu hq hc.length.symm
  |sl l=>simp [AV.flat] at hq
  |bool b=>simp only [aF] at hr;subst hr;exact⟨_,[],[],[],rfl,rfl,rfl,rfl,rfl⟩
  |int k n=>simp only [aF] at hr;subst hr;exact⟨_,[],[],[],rfl,rfl,rfl,rfl,rfl⟩
  |str s=>simp only [aF] at hr;subst hr;exact⟨_,[],[],[],rfl,rfl,rfl,rfl,rfl⟩
  |any=>
   simp only [aF] at hr
   cases v<;>first|exact hr.elim|exact⟨_,[],[],[],rfl,rfl,rfl,rfl,rfl⟩
 |aj|fr|own=>
  obtain⟨b,q,s',c',k1,k2,k3,k4,k5,k6,l,rfl⟩:=Sb h hx (by simpa only [qP] using he) nofun
  refine⟨.sl l,q,s',c',k1,k2,k3,k4,k5,fun hq=>?_⟩
  obtain⟨bs,n1,n2⟩:=k6 hq
  simp only [aF,aD] at k4
  obtain⟨ad,cap,rfl,_⟩:=k4
  exact⟨bs,⟨_,[],bs,[],rfl,by simp,n1,rfl,rfl⟩,n2⟩
 |_=>simp [qP,take1] at he
theorem Ia {τ:Nat} {s:St} {x:SV} {K:AV→Bool→St→Prop} (h:take1 τ s x K):take1 τ s x fun b q s'=>K b q s'∧∀ρ t,s'.tok ρ=some t→t.frz=false→s.tok ρ=some t:=by
 cases x with
 |data b=>exact⟨h,fun _ _ h _=>h⟩
 |aj=>exact⟨h,fun _ _ h _=>h⟩
 |fr l=>exact⟨h,fun _ _ h _=>h⟩
 |own σ g=>
  simp only [take1] at h ⊢
  cases ht:s.tok σ with
  |none=>simp [ht] at h
  |some t=>
   simp only [ht] at h ⊢
   cases hg:Nat.beq t.gen g with
   |false=>simp [hg] at h
   |true=>
    simp only [hg,cond_true] at h ⊢
    refine⟨h,fun ρ t' ht' hf=>?_⟩
    by_cases hs:ρ=σ
    ·subst hs;rw [dh] at ht';cases ht';simp at hf
    ·rwa [gG s _ hs] at ht'
 |_=>simp [take1] at h
theorem El {τ:Nat} {s:St} {x:SV} {K K':AV→Bool→St→Prop} (h:take1 τ s x K) (hk:∀b q s',K b q s'→K' b q s'):take1 τ s x K':=by
 cases x with
 |data b=>exact hk _ _ _ h
 |aj=>exact hk _ _ _ h
 |fr l=>exact hk _ _ _ h
 |own σ g=>
  simp only [take1] at h ⊢
  cases ht:s.tok σ with
  |none=>simp [ht] at h
  |some t=>
   simp only [ht] at h ⊢
   cases hg:Nat.beq t.gen g with
   |false=>simp [hg] at h
   |true=>simp only [hg,cond_true] at h ⊢;exact hk _ _ _ h
 |_=>simp [take1] at h
theorem xP {τ:Nat}:∀{l:List SV} {s:St} {K K':List AV→Bool→St→Prop},wW τ s l K→(∀b q s',K b q s'→K' b q s')→wW τ s l K'
 |[],_,_,_,h,hk=>hk _ _ _ h
 |v::r,_,_,_,h,hk=>El h fun _ _ _ h1=>xP h1 fun _ _ _=>hk _ _ _
theorem Ib {τ:Nat}:∀{l:List SV} {s:St} {K:List AV→Bool→St→Prop},wW τ s l K→wW τ s l fun b q s'=>K b q s'∧∀ρ t,s'.tok ρ=some t→t.frz=false→s.tok ρ=some t
 |[],_,_,h=>⟨h,fun _ _ h _=>h⟩
 |v::r,_,_,h=>El (Ia h) fun _ _ _ h1=>xP (Ib h1.1) fun _ _ _ h2=>⟨h2.1,fun ρ t ht hf=>h1.2 ρ t (h2.2 ρ t ht hf) hf⟩
theorem QL {τ:Nat} {s:St} {x:SV} {K:AV→Bool→St→Prop} (h:qP τ s x K):qP τ s x fun b q s'=>K b q s'∧∀ρ t,s'.tok ρ=some t→t.frz=false→s.tok ρ=some t:=by
 cases x with
 |gW l=>exact xP (Ib (l:=l) h) fun _ _ _ h=>h
 |_=>exact Ia (by simpa only [qP] using h)
theorem Em {s:St} {c:Cx} {x:SV} {v:Value} {K:AV→St→Prop} (h:Gam T L w0 I0 s a w c) (hx:ah T c s.tok s.mem w L x v) (he:iO s x K):
  ∃b s' c',K b s'∧Gam T L w0 I0 s' a w c'∧Ext L c s.tok s.mem w c' s'.tok s'.mem w∧∀(J:Nat→Prop),(∀b,b < w.heap.size→¬ c.M b→J b)→rF c'.I J w L b v:=by
 unfold iO at he
 split at he
 ·rename_i d g
  cases hm:s.mem d with
  |none=>simp [hm] at he
  |some p=>
   obtain⟨g',cells⟩:=p
   simp only [hm] at he
   cases hg:Nat.beq g' g with
   |false=>simp [hg] at he
   |true=>
    simp only [hg,cond_true] at he
    have hgg:=Nat.eq_of_beq_eq_true hg
    simp only [ah] at hx
    obtain⟨g1,vD,h1,h2,h3⟩:=hx
    rw [hm] at h1;cases h1
    obtain⟨b,hb,rfl⟩:=h3 hgg.symm
    obtain⟨b',cs,E,k1,k2,k3,k4,k5⟩:=h.jB d g' cells hm
    rw [hb] at k1;cases k1
    have hlt:=(h.wlt b (by simp [k2])).2
    have hnm:¬ c.M b:=fun hm=>by have:=h.bo.2.1 b (.inr hm.1);rw [k2] at this;cases this
    have hcell:∀j u,cs[j]? =some u→w.cell? ⟨b,j,none⟩=some u:=fun j u hu=>by
     rw [cell_of_row w b j _ _ _ k3];simpa using hu
    have hC:∀(I:Nat→Prop) (l:List AV) (us:List Value) (o:Nat),aN (aD I w L) l us→(∀j u,us[j]? =some u→w.cell? ⟨b,o+j,none⟩=some u)→aX I w L b l o:=by
     intro I l
     induction l with
     |nil=>intro us o _ _;simp [aX]
     |cons x xs ih=>
      intro us o h1 h2
      cases us with
      |nil=>exact h1.elim
      |cons y ys=>
       simp only [aX]
       exact⟨⟨y,by simpa using h2 0 y rfl,h1.1⟩,ih ys (o+1) h1.2 fun j u hu=>by
        have:=h2 (j+1) u (by simpa using hu)
        rwa [show o+(j+1)=o+1+j by omega] at this⟩
    split at he
    ·rename_i c1
     simp only [ak] at k4
     obtain⟨u,us,rfl,m2,m3⟩:=k4
     subst m3
     obtain⟨av,s',c',n1,n2,n3,n4⟩:=qQ h m2 he
     have hone:=aF.RZ n4 (k5 u (by simp))
     refine⟨av,s',c',n1,n2,n3,fun J hJ=>⟨b,0,rfl,.inr (hJ b hlt hnm),?_⟩⟩
     have hac:av.cells= [av]:=by cases av<;>simp [AV.cells,aD] at hone ⊢
     rw [hac]
     exact hC c'.I [av] [u] 0 ⟨hone,trivial⟩ (fun j u hu=>by simpa using hcell j u hu)
    ·obtain⟨as,s',c',n1,n2,n3,n4⟩:=sW h k4 he
     refine⟨.agg as,s',c',n1,n2,n3,fun J hJ=>⟨b,0,rfl,.inr (hJ b hlt hnm),?_⟩⟩
     exact hC c'.I as cs 0 (n4.ones k5) (fun j u hu=>by simpa using hcell j u hu)
 ·simp only [ah] at hx
  exact⟨_,s,c,he,h,Ext.refl _ _ _ _ _,fun J hJ=>rF.ext (fun _ h=>h) (fun b hj=>.inl (hJ b (h.Jl b hj) (h.nm (.inr hj)))) (fun _ _ _=>rfl) hx⟩
 ·exact he.elim
theorem sD:∀{l:List SV} {s:St} {c:Cx} {vs:List Value} {K:List AV→St→Prop},Gam T L w0 I0 s a w c→ak T c s.tok s.mem w L l vs→iG s l K→
  ∃bs s' c',K bs s'∧Gam T L w0 I0 s' a w c'∧Ext L c s.tok s.mem w c' s'.tok s'.mem w∧∀(J:Nat→Prop),(∀b,b < w.heap.size→¬ c.M b→J b)→aN (rF c'.I J w L) bs vs:=by
 intro l
 induction l with
 |nil=>
  intro s c vs K h hl he
  simp only [ak] at hl;subst hl
  exact⟨[],s,c,he,h,Ext.refl _ _ _ _ _,fun _ _=>trivial⟩
 |cons x xs ih=>
  intro s c vs K h hl he
  simp only [ak] at hl
  obtain⟨u,us,rfl,h2,h3⟩:=hl
  simp only [iG] at he
  obtain⟨b,s1,c1,k1,k2,k3,k4⟩:=Em h h2 he
  obtain⟨bs,s2,c2,m1,m2,m3,m4⟩:=ih k2 (ak.ext k3 _ _ h3) k1
  exact⟨b::bs,s2,c2,m1,m2,k3.trans m3,fun J hJ=>⟨rF.ext m3.hI (fun _ h=>.inl h) (fun _ _ _=>rfl) (k4 J hJ),m4 J (by rw [k3.hM];exact hJ)⟩⟩
theorem lN.ext {I I' J O O':Nat→Prop} {mt:Bool} (hI:∀b,I b→I' b) (hO:∀b,O b→O' b) {x:AR} {v:Value} (hx:x.DZ=false) (h:lN I J O mt w L x v):lN I' J O' mt w L x v:=by
 cases x with
 |bx=>cases hx
 |lend=>cases hx
 |d a=>exact aF.mono hI (fun _ _ _=>rfl) h
 |ref a=>exact rF.ext hI (fun _ h=>.inl h) (fun _ _ _=>rfl) h
 |old a=>exact⟨h.1,aF.mono hO (fun _ _ _=>rfl) h.2⟩
 |fn f caps=>
  obtain⟨vs,h1,h2⟩:=h
  exact⟨vs,h1,h2.mono fun _ _ hu=>rF.ext hI (fun _ h=>.inl h) (fun _ _ _=>rfl) hu⟩
def Jp (c:Cx) (mem:Nat→Option (Nat×List SV)) (b:Nat):Prop:=∀d g cells,mem d=some (g,cells)→c.β d≠some b
def fq (T:Nat→Ty) (c:Cx) (tok:Nat→Option Tok) (mem:Nat→Option (Nat×List SV)) (J:Nat→Prop) (w:World) (L:Nat):AR→Value→Prop
 | .bx as,v=>∃(d g:Nat) (cells:List SV) (b:Nat) (cs:List Value) (E:TypeId),mem d=some (g,cells)∧ah T c tok mem w L (.box d g 0) v∧v= .pointer (some ⟨b,0,none⟩)∧w.heap[b]? =some (.cells (List.toArray cs) E (0,0))∧aN (xO c.I w L) as cs∧fU cs
 | .lend a,v=>a.mdv false=true∧∃U:Nat→Prop,aF U w L a v∧∀b,U b→b < w.heap.size∧Jp c mem b
 |x,v=>lN c.I J c.O c.mt w L x v
theorem fq.of {c:Cx} {tok:Nat→Option Tok} {mem:Nat→Option (Nat×List SV)} {J:Nat→Prop} {w:World} {x:AR} {v:Value} (hx:x.DZ=false) (h:lN c.I J c.O c.mt w L x v):fq T c tok mem J w L x v:=by
 cases x<;>first|exact h|cases hx
theorem fq.old {c:Cx} {tok:Nat→Option Tok} {mem:Nat→Option (Nat×List SV)} {J:Nat→Prop} {w:World} {x:AR} {v:Value} (hx:x.DZ=false) (h:fq T c tok mem J w L x v):lN c.I J c.O c.mt w L x v:=by
 cases x<;>first|exact h|cases hx
theorem fq.olds {c:Cx} {tok:Nat→Option Tok} {mem:Nat→Option (Nat×List SV)} {J:Nat→Prop} {w:World}:∀{l:List AR} {vs:List Value},lK l=true→aN (fq T c tok mem J w L) l vs→aN (lN c.I J c.O c.mt w L) l vs
 |[],[],_,_=>trivial
 |x::l,v::vs,hn,h=>by
  simp only [lK,Bool.and_eq_true,Bool.not_eq_true'] at hn
  exact⟨h.1.old hn.1,fq.olds hn.2 h.2⟩
 |[],_::_,_,h=>h.elim
 |_::_,[],_,h=>h.elim
theorem fq.ext {c c':Cx} {tok sw:Nat→Option Tok} {mem mem':Nat→Option (Nat×List SV)} {J:Nat→Prop} (e:Ext L c tok mem w c' sw mem' w) (hm:mem'=mem) {x:AR} {v:Value} (h:fq T c tok mem J w L x v):fq T c' sw mem' J w L x v:=by
 cases hx:x.DZ with
 |false=>exact fq.of hx (by rw [e.hmt,e.hO];exact lN.ext e.hI (fun _ h=>h) hx (h.old hx))
 |true=>
  cases x with
  |bx as=>
   obtain⟨d,g,cells,b,cs,E,h1,h2,h3,h4,h5,h6⟩:=h
   exact⟨d,g,cells,b,cs,E,by rw [hm];exact h1,ah.ext e _ _ h2,h3,h4,h5.mono fun _ _ h=>xO.mono e.hI h,h6⟩
  |lend as=>
   obtain⟨h0,U,h1,h2⟩:=h
   refine⟨h0,U,h1,fun b hb=>⟨(h2 b hb).1,fun d g cells hd hβ=>?_⟩⟩
   rw [hm] at hd
   obtain⟨g',cells',k1,_,k3⟩:=e.hmem d g cells hd
   rw [hm,hd] at k1;cases k1
   exact (h2 b hb).2 d g cells hd (by rw [← k3 rfl];exact hβ)
  |_=>cases hx
theorem wz {s:St} {x:SV} {K:AV→St→Prop} (h:erase s x K):erase s x fun a s'=>K a s'∧s'.mem=s.mem:=by
 cases x with
 |own τ g=>
  simp only [erase] at h ⊢
  cases ht:s.tok τ with
  |none=>simp [ht] at h
  |some t=>
   simp only [ht] at h ⊢
   cases hg:Nat.beq t.gen g with
   |false=>simp [hg] at h
   |true=>simp only [hg,cond_true] at h ⊢;exact⟨h,rfl⟩
 |data a=>exact⟨h,rfl⟩
 |aj=>exact⟨h,rfl⟩
 |fr l=>exact⟨h,rfl⟩
 |argv i j a=>exact⟨h,rfl⟩
 |_=>exact h
theorem wB {s:St} {x:SV} {K K':AV→St→Prop} (hk:∀a s,K a s→K' a s) (h:erase s x K):erase s x K':=by
 cases x with
 |own τ g=>
  simp only [erase] at h ⊢
  cases ht:s.tok τ with
  |none=>simp [ht] at h
  |some t=>
   simp only [ht] at h ⊢
   cases hg:Nat.beq t.gen g with
   |false=>simp [hg] at h
   |true=>simp only [hg,cond_true] at h ⊢;exact hk _ _ h
 |data a=>exact hk _ _ h
 |aj=>exact hk _ _ h
 |fr l=>exact hk _ _ h
 |argv i j a=>exact hk _ _ h
 |_=>exact h
theorem sZ:∀{l:List SV} {s:St} {K:List AV→St→Prop},lH s l K→lH s l fun a s'=>K a s'∧s'.mem=s.mem
 |[],_,_,h=>⟨h,rfl⟩
 |v::r,s,K,h=>by
  simp only [lH] at h ⊢
  exact wB (fun a s1 hh=>by
   obtain⟨h1,h2⟩:=hh
   rw [← h2]
   exact sZ (l:=r) (K:=fun as s2=>K (a::as) s2) h1) (wz h)
theorem En:∀{l:List SV} {s:St} {K K':List AV→St→Prop},(∀a s,K a s→K' a s)→lH s l K→lH s l K'
 |[],_,_,_,hk,h=>hk _ _ h
 |v::r,s,K,K',hk,h=>by
  simp only [lH] at h ⊢
  exact wB (fun a s1 hh=>En (l:=r) (fun as s2 h2=>hk _ _ h2) hh) h
theorem Eo {s:St} {x:SV} {K:AV→St→Prop} (h:kJ s x K):kJ s x fun a s'=>K a s'∧s'.mem=s.mem:=by
 cases x with
 |gW l=>exact sZ (K:=fun as s1=>K (.agg as) s1) h
 |_=>simp only [kJ] at h ⊢;exact wz h
theorem Jq {s:St} {x:SV} {K:AV→St→Prop} (h:iO s x K):iO s x fun a s'=>K a s'∧s'.mem=s.mem:=by
 unfold iO at h ⊢
 split at h
 ·rename_i d g
  split at h
  ·rename_i g' cells hm
   cases hg:Nat.beq g' g with
   |false=>simp only [hg,cond_false] at h
   |true=>
    simp only [hm,hg,cond_true] at h ⊢
    split at h
    ·exact wz h
    ·exact sZ (K:=fun as s1=>K (.agg as) s1) h
  ·exact h.elim
 ·exact⟨h,rfl⟩
 ·exact h.elim
theorem Jr {s:St} {x:SV} {K K':AV→St→Prop} (hk:∀a s,K a s→K' a s) (h:iO s x K):iO s x K':=by
 unfold iO at h ⊢
 split at h
 ·rename_i d g
  split at h
  ·rename_i g' cells hm
   cases hg:Nat.beq g' g with
   |false=>simp only [hg,cond_false] at h
   |true=>
    simp only [hm,hg,cond_true] at h ⊢
    split at h
    ·exact wB hk h
    ·exact En (fun _ _ hh=>hk _ _ hh) h
  ·exact h.elim
 ·exact hk _ _ h
 ·exact h.elim
theorem pV:∀{l:List SV} {s:St} {K:List AV→St→Prop},iG s l K→iG s l fun a s'=>K a s'∧s'.mem=s.mem
 |[],_,_,h=>⟨h,rfl⟩
 |v::r,s,K,h=>by
  simp only [iG] at h ⊢
  exact Jr (fun a s1 hh=>by
   obtain⟨h1,h2⟩:=hh
   rw [← h2]
   exact pV (l:=r) (K:=fun as s2=>K (a::as) s2) h1) (Jq h)
theorem xQ:∀{l:List SV} {s:St} {K:List SV→St→Prop},pO s l K→pO s l fun a s'=>K a s'∧s'.mem=s.mem
 |[],_,_,h=>⟨h,rfl⟩
 |v::r,s,K,h=>by
  have go:(erase s v fun a s1=>pO s1 r fun as s2=>K (.data a::as) s2)→erase s v fun a s1=>pO s1 r fun as s2=>K (.data a::as) s2∧s2.mem=s.mem:=fun h=>wB (fun a s1 hh=>by
   obtain⟨h1,h2⟩:=hh
   rw [← h2]
   exact xQ (l:=r) (K:=fun as s2=>K (.data a::as) s2) h1) (wz h)
  cases v with
  |aj=>exact xQ (l:=r) (K:=fun as s2=>K (.aj::as) s2) h
  |_=>exact go h
theorem Js {s:St} {c:Cx}:∀{l:List SV} {vs:List Value} {K:List SV→St→Prop},Gam T L w0 I0 s a w c→ak T c s.tok s.mem w L l vs→pO s l K→
  ∃bs s' c',K bs s'∧Gam T L w0 I0 s' a w c'∧Ext L c s.tok s.mem w c' s'.tok s'.mem w∧aN (xO c'.I w L) bs vs:=by
 intro l
 induction l generalizing s c with
 |nil=>
  intro vs K h hl he
  simp only [ak] at hl;subst hl
  exact⟨[],s,c,he,h,Ext.refl _ _ _ _ _,trivial⟩
 |cons x xs ih=>
  intro vs K h hl he
  simp only [ak] at hl
  obtain⟨u,us,rfl,h2,h3⟩:=hl
  have go:(erase s x fun a s1=>pO s1 xs fun as s2=>K (.data a::as) s2)→∃bs s' c',K bs s'∧Gam T L w0 I0 s' a w c'∧Ext L c s.tok s.mem w c' s'.tok s'.mem w∧aN (xO c'.I w L) bs (u::us):=fun he=>by
   obtain⟨b,s1,c1,k1,k2,k3,k4⟩:=qQ h h2 he
   obtain⟨bs,s2,c2,m1,m2,m3,m4⟩:=ih k2 (ak.ext k3 _ _ h3) k1
   exact⟨.data b::bs,s2,c2,m1,m2,k3.trans m3,k4.mono m3.hI m3.hwI,m4⟩
  cases x with
  |aj=>
   obtain⟨bs,s2,c2,m1,m2,m3,m4⟩:=ih (K:=fun as s2=>K (.aj::as) s2) h h3 he
   exact⟨.aj::bs,s2,c2,m1,m2,m3,by simpa [ah,xO] using h2,m4⟩
  |_=>exact go he
theorem Jt {s:St} {x:SV} {K:AR→St→Prop} {b:Bool} (h:dW b s x K):dW b s x fun a s'=>K a s'∧s'.mem=s.mem:=by
 cases x with
 |fn f caps=>exact pV (K:=fun as s1=>K (.fn f as) s1) h
 |fnr f caps=>exact⟨h,rfl⟩
 |old a=>exact⟨h,rfl⟩
 |box d g off=>
  cases off with
  |succ n=>exact h.elim
  |zero=>
   simp only [dW] at h ⊢
   cases hd:s.mem d with
   |none=>simp [hd] at h
   |some p=>
    obtain⟨g',cells⟩:=p
    simp only [hd] at h ⊢
    cases hg:Nat.beq g' g with
    |false=>simp only [hg,cond_false] at h
    |true=>simp only [hg,cond_true] at h ⊢;exact xQ (K:=fun as s1=>K (.bx as) s1) h
 |gW l=>exact Eo (x:=.gW l) (K:=fun a s1=>K (.d a) s1) h
 |own τ g=>
  simp only [dW] at h ⊢
  cases hl:(yT τ&&b) with
  |false=>simp only [hl,cond_false] at h ⊢;exact Eo (x:=.own τ g) (K:=fun a s1=>K (.d a) s1) h
  |true=>
   simp only [hl,cond_true,Lv] at h ⊢
   cases ht:s.tok τ with
   |none=>simp only [ht] at h
   |some t=>
    simp only [ht] at h ⊢
    cases hb:(Nat.beq t.gen g&& !t.frz) with
    |false=>simp only [hb,cond_false] at h
    |true=>simp only [hb,cond_true] at h ⊢;exact⟨h.h,h.k,trivial⟩
 |data a=>exact⟨h,rfl⟩
 |aj=>exact⟨h,rfl⟩
 |fr l=>exact⟨h,rfl⟩
 |argv i j a=>exact⟨h,rfl⟩
 |_=>exact h
theorem Ep {s:St} {c:Cx} {x:SV} {v:Value} {K:AR→St→Prop} {bb:Bool} (h:Gam T L w0 I0 s a w c) (hx:ah T c s.tok s.mem w L x v) (he:dW bb s x K):
  ∃b s' c',K b s'∧Gam T L w0 I0 s' a w c'∧Ext L c s.tok s.mem w c' s'.tok s'.mem w∧s'.mem=s.mem∧∀(J:Nat→Prop),(∀b,b < w.heap.size→¬ c.M b→J b)→fq T c' s'.tok s'.mem J w L b v:=by
 replace he:=Jt he
 cases x with
 |fn f caps=>
  simp only [dW] at he
  simp only [ah] at hx
  obtain⟨vs,rfl,h2⟩:=hx
  obtain⟨bs,s',c',⟨k1,k0⟩,k2,k3,k4⟩:=sD h h2 he
  exact⟨.fn f bs,s',c',k1,k2,k3,k0,fun J hJ=>⟨vs,rfl,k4 J hJ⟩⟩
 |fnr f caps=>
  simp only [dW] at he
  simp only [ah] at hx
  obtain⟨vs,rfl,h2⟩:=hx
  exact⟨_,s,c,he.1,h,Ext.refl _ _ _ _ _,rfl,fun J hJ=>⟨vs,rfl,h2.mono fun _ _ hu=>rF.ext (fun _ h=>h) (fun b hj=>.inl (hJ b (h.Jl b hj) (h.nm (.inr hj)))) (fun _ _ _=>rfl) hu⟩⟩
 |old b=>
  simp only [dW] at he
  simp only [ah] at hx
  exact⟨_,s,c,he.1,h,Ext.refl _ _ _ _ _,rfl,fun J hJ=>hx⟩
 |box d g off=>
  cases off with
  |succ n=>exact he.elim
  |zero=>
   simp only [dW] at he
   cases hd:s.mem d with
   |none=>simp [hd] at he
   |some p=>
    obtain⟨g',cells⟩:=p
    simp only [hd] at he
    cases hg:Nat.beq g' g with
    |false=>simp only [hg,cond_false] at he
    |true=>
     simp only [hg,cond_true] at he
     have:=Nat.eq_of_beq_eq_true hg
     subst this
     have hx0:=hx
     simp only [ah] at hx
     obtain⟨g1,vD,h1,h2,h3⟩:=hx
     rw [hd] at h1;cases h1
     obtain⟨b,hb,hv⟩:=h3 rfl
     obtain⟨b',cs,E,k1,k2,k3,k4,k5⟩:=h.jB d g' cells hd
     rw [hb] at k1;cases k1
     obtain⟨as,s',c',⟨n1,n0⟩,n2,n3,n4⟩:=Js h k4 he
     exact⟨.bx as,s',c',n1,n2,n3,n0,fun J hJ=>⟨d,g',cells,b,cs,E,by rw [n0];exact hd,ah.ext n3 _ _ hx0,hv,k3,n4,k5⟩⟩
 |own τ g=>
  simp only [dW] at he
  cases hl:(yT τ&&bb) with
  |false=>
   simp only [hl,cond_false] at he
   obtain⟨b,s',c',⟨k1,k0⟩,k2,k3,k4⟩:=jW h hx he
   exact⟨_,s',c',k1,k2,k3,k0,fun J _=>k4⟩
  |true=>
   simp only [hl,cond_true,Lv] at he
   cases ht:s.tok τ with
   |none=>simp only [ht] at he
   |some t=>
    simp only [ht] at he
    cases hb:(Nat.beq t.gen g&& !t.frz) with
    |false=>simp only [hb,cond_false] at he
    |true=>
     simp only [hb,cond_true] at he
     simp only [Bool.and_eq_true] at hb
     have hgg:=Nat.eq_of_beq_eq_true hb.1
     simp only [ah] at hx
     obtain⟨t',h1,h2,h3⟩:=hx
     rw [ht] at h1;cases h1
     obtain⟨c',u,k1,k2,k3,k4⟩:=h.freeze ht
     rw [h3 hgg.symm] at k3;cases k3
     refine⟨_,s,c,he.k.1,h,Ext.refl _ _ _ _ _,rfl,fun J _=>⟨he.h,c'.I,k4,fun b hb=>⟨k1.ilt b hb,fun d g2 cells hd hβ=>?_⟩⟩⟩
     obtain⟨b',cs',E',m1,m2,_⟩:=k1.jB d g2 cells hd
     obtain⟨g3,cells3,n1,_,n3⟩:=k2.hmem d g2 cells hd
     rw [hd] at n1;cases n1
     rw [n3 rfl,hβ] at m1;cases m1
     have:=k1.jV b hb
     rw [m2] at this;cases this
 |_=>
  simp only [dW] at he
  obtain⟨b,s',c',⟨k1,k0⟩,k2,k3,k4⟩:=jW h hx he
  exact⟨_,s',c',k1,k2,k3,k0,fun J _=>k4⟩
theorem oh {bb:Bool}:∀{l:List SV} {s:St} {c:Cx} {vs:List Value} {K:List AR→St→Prop},Gam T L w0 I0 s a w c→ak T c s.tok s.mem w L l vs→fP bb s l K→
  ∃bs s' c',K bs s'∧Gam T L w0 I0 s' a w c'∧Ext L c s.tok s.mem w c' s'.tok s'.mem w∧s'.mem=s.mem∧∀(J:Nat→Prop),(∀b,b < w.heap.size→¬ c.M b→J b)→aN (fq T c' s'.tok s'.mem J w L) bs vs:=by
 intro l
 induction l with
 |nil=>
  intro s c vs K h hl he
  simp only [ak] at hl;subst hl
  exact⟨[],s,c,he,h,Ext.refl _ _ _ _ _,rfl,fun _ _=>trivial⟩
 |cons x xs ih=>
  intro s c vs K h hl he
  simp only [ak] at hl
  obtain⟨u,us,rfl,h2,h3⟩:=hl
  simp only [fP] at he
  obtain⟨b,s1,c1,k1,k2,k3,k0,k4⟩:=Ep h h2 he
  obtain⟨bs,s2,c2,m1,m2,m3,m0,m4⟩:=ih k2 (ak.ext k3 _ _ h3) k1
  exact⟨b::bs,s2,c2,m1,m2,k3.trans m3,m0.trans k0,fun J hJ=>⟨(k4 J hJ).ext m3 m0,m4 J (by rw [k3.hM];exact hJ)⟩⟩
end
end Go.Proofs.YtpfgedlimdeffaaGreat.Abs
namespace Go.Proofs.YtpfgedlimdeffaaGreat.Abs
def Wr.nP:Wr→Bool
 | .tok _ _=>true
 |_=>false
theorem PV:∀{ws:List Wr} {s:St},(∀w∈ws,w.nP=true)→(s.app ws).get=s.get
 |[],_,_=>rfl
 | .tok _ _::r,s,h=>by
  simp only [St.app]
  rw [PV fun w hw=>h w (by simp [hw])];rfl
 | .slot i v::r,s,h=>by have:=h (.slot i v) (by simp);simp [Wr.nP] at this
 | .mem d g cs::r,s,h=>by have:=h (.mem d g cs) (by simp);simp [Wr.nP] at this
theorem Ju:∀{ws:List Wr} {s:St},(∀w∈ws,w.nP=true)→(s.app ws).mem=s.mem
 |[],_,_=>rfl
 | .tok _ _::r,s,h=>by
  simp only [St.app]
  rw [Ju fun w hw=>h w (by simp [hw])];rfl
 | .slot i v::r,s,h=>by have:=h (.slot i v) (by simp);simp [Wr.nP] at this
 | .mem d g cs::r,s,h=>by have:=h (.mem d g cs) (by simp);simp [Wr.nP] at this
def Fz (fz:Nat→Bool) (s:St):Prop:=∀τ,fz τ=true→∃t,s.tok τ=some t∧t.frz=true
def dJ {α:Type} (fz:Nat→Bool) (F:St→(α→St→Prop)→Prop) (s:St) (R W:List Key):Prop:=
 Fz fz s→∀K,F s K→∃x ws,K x (s.app ws)∧Fz fz (s.app ws)∧(∀w∈ws,w.nP=true)∧(∀w∈ws,w.key∈W)∧
  ∀t,t.n=s.n→(∀k∈R,same k s t)→∀K',K' x (t.app ws)→F t K'
theorem dJ.bind {α β:Type} {fz:Nat→Bool} {F:St→(α→St→Prop)→Prop} {G:α→St→(β→St→Prop)→Prop} {s:St} {R1 W1 R2 W2:List Key}
  (h1:dJ fz F s R1 W1) (h2:∀x ws,(∀w∈ws,w.nP=true)→dJ fz (G x) (s.app ws) R2 W2):
  dJ fz (fun s K=>F s (fun x s1=>G x s1 K)) s (R1++R2) (W1++W2):=by
 intro hz K h
 obtain⟨x,ws,hG,hz1,ht1,hk1,hF⟩:=h1 hz _ h
 obtain⟨y,vs,hK,hz2,ht2,hk2,hF2⟩:=h2 x ws ht1 hz1 K hG
 refine⟨y,ws++vs,by rwa [St.aH],by rwa [St.aH],?_,?_,?_⟩
 ·intro w hw;exact (List.mem_append.1 hw).elim (ht1 w) (ht2 w)
 ·intro w hw;rcases List.mem_append.1 hw with hw|hw
  ·exact List.mem_append_left _ (hk1 w hw)
  ·exact List.mem_append_right _ (hk2 w hw)
 ·intro t hn hR K' hk
  refine hF t hn (fun k hk=>hR k (List.mem_append_left _ hk)) _ ?_
  refine hF2 (t.app ws) (by simp [St.rZ,hn]) (fun k hk=>fQ hn.symm (hR k (List.mem_append_right _ hk))) K' ?_
  rwa [← St.aH]
theorem dJ.pure {α:Type} {fz:Nat→Bool} {x:α} {s:St}:dJ fz (fun s K=>K x s) s [] []:=
 fun hz _ h=>⟨x,[],h,hz,by simp,by simp,fun _ _ _ _ hk=>hk⟩
theorem dJ.false {α:Type} {fz:Nat→Bool} {F:St→(α→St→Prop)→Prop} {s:St} {R W:List Key} (h:∀K,¬ F s K):dJ fz F s R W:=
 fun _ K hh=>(h K hh).elim
theorem dJ.map {α β:Type} {fz:Nat→Bool} {F:St→(α→St→Prop)→Prop} {s:St} {R W:List Key} (f:α→β) (h:dJ fz F s R W):
  dJ fz (fun s K=>F s (fun x s1=>K (f x) s1)) s R W:=by
 intro hz K hh
 obtain⟨x,ws,h1,h2,h3,h4,h5⟩:=h hz _ hh
 exact⟨f x,ws,h1,h2,h3,h4,fun t hn hR K' hk=>h5 t hn hR _ hk⟩
def eR:SV→List Key
 | .own τ _=>[.tok τ]
 |_=>[]
def eW (fz:Nat→Bool):SV→List Key
 | .own τ _=>bif fz τ then [] else [.tok τ]
 |_=>[]
def eRL:List SV→List Key
 |[]=>[]
 |v::r=>eR v++eRL r
def eWL (fz:Nat→Bool):List SV→List Key
 |[]=>[]
 |v::r=>eW fz v++eWL fz r
def eRV:SV→List Key
 | .gW l=>eRL l
 |v=>eR v
def eWV (fz:Nat→Bool):SV→List Key
 | .gW l=>eWL fz l
 |v=>eW fz v
theorem Cc {s:St} {τ:Nat} {t:Tok} (h:s.tok τ=some t):s.aS τ t=s:=by
 refine St.ext' rfl fun k=>?_
 cases k with
 |slot i=>rfl
 |mem d=>rfl
 |tok τ'=>
  simp only [same,St.aS]
  cases hb:Nat.beq τ' τ with
  |true=>rw [Nat.eq_of_beq_eq_true hb,h];rfl
  |false=>rfl
theorem Fz.aS {fz:Nat→Bool} {s:St} {τ:Nat} {t:Tok} (h:Fz fz s) (ht:t.frz=true):Fz fz (s.aS τ t):=by
 intro τ' hz
 simp only [St.aS]
 cases hb:Nat.beq τ' τ with
 |true=>exact⟨t,rfl,ht⟩
 |false=>exact h τ' hz
theorem wC {fz:Nat→Bool} {v:SV} {s:St}:dJ fz (fun s K=>erase s v K) s (eR v) (eW fz v):=by
 cases v with
 |data a=>exact dJ.pure
 |aj=>exact dJ.pure
 |fr l=>exact dJ.pure
 |argv i j a=>exact dJ.pure
 |own τ g=>
  intro hz K h
  simp only [erase] at h
  split at h
  ·rename_i tk htk
   cases hg:Nat.beq tk.gen g with
   |false=>simp [hg] at h
   |true=>
    simp only [hg,cond_true] at h
    have hF:∀t:St,t.tok τ=some tk→∀K',K' (.sl tk.l) (t.aS τ { tk with frz:=true })→erase t (.own τ g) K':=by
     intro t ht K' hk
     simp only [erase,ht,hg,cond_true];exact hk
    cases hf:fz τ with
    |true=>
     obtain⟨tk',ht',hfr⟩:=hz τ hf
     rw [htk] at ht';cases ht'
     have e:({ tk with frz:=true }:Tok)=tk:=by cases tk;simp_all
     rw [e,Cc htk] at h
     refine⟨.sl tk.l,[],h,hz,by simp,by simp,fun t hn hR K' hk=>hF t ?_ K' ?_⟩
     ·have:=hR (.tok τ) (by simp [eR]);simp only [same] at this;rw [← this,htk]
     ·have:=hR (.tok τ) (by simp [eR]);simp only [same] at this
      rw [e,Cc (by rw [← this,htk])];exact hk
    |false=>
     refine⟨.sl tk.l,[.tok τ { tk with frz:=true }],h,hz.aS rfl,by simp [Wr.nP],by simp [Wr.key,eW,hf],fun t hn hR K' hk=>hF t ?_ K' hk⟩
     have:=hR (.tok τ) (by simp [eR]);simp only [same] at this;rw [← this,htk]
  ·exact h.elim
 |undef|gone|iW|box|bsl|ref|old|bQ|fn|fnr|gW|tup=>exact dJ.false fun K h=>h
theorem tq {fz:Nat→Bool}:∀{l:List SV} {s:St},dJ fz (fun s K=>lH s l K) s (eRL l) (eWL fz l)
 |[],_=>dJ.pure
 |v::r,_=>(wC (v:=v)).bind fun x _ _=>(tq (l:=r)).map fun as=>x::as
theorem xR {fz:Nat→Bool} {v:SV} {s:St}:dJ fz (fun s K=>kJ s v K) s (eRV v) (eWV fz v):=by
 cases v with
 |gW l=>exact (tq (l:=l)).map AV.agg
 |own τ g=>exact (wC (v:=.own τ g):dJ fz (fun s K=>erase s (.own τ g) K) s (eR (.own τ g)) (eW fz (.own τ g)))
 |data a=>exact dJ.pure
 |aj=>exact dJ.pure
 |fr l=>exact dJ.pure
 |argv i j a=>exact dJ.pure
 |undef|gone|iW|box|bsl|ref|old|bQ|fn|fnr|tup=>exact dJ.false fun K h=>h
theorem Jv {fz:Nat→Bool} {b:Bool} {τ g:Nat} {s:St}:dJ fz (fun s K=>dW b s (.own τ g) K) s (eRV (.own τ g)) (eWV fz (.own τ g)):=by
 cases hl:(yT τ&&b) with
 |false=>
  have:=(xR (fz:=fz) (v:=.own τ g) (s:=s)).map AR.d
  simpa only [dW,hl,cond_false] using this
 |true=>
  intro hz K h
  simp only [dW,hl,cond_true,Lv] at h
  cases ht:s.tok τ with
  |none=>simp only [ht] at h
  |some tk=>
   simp only [ht] at h
   cases hb:(Nat.beq tk.gen g&& !tk.frz) with
   |false=>simp only [hb,cond_false] at h
   |true=>
    simp only [hb,cond_true] at h
    refine⟨.lend (.sl tk.l),[],h.k,hz,by simp,by simp,fun t hn hR K' hk=>?_⟩
    have:=hR (.tok τ) (by simp [eRV,eR]);simp only [same] at this
    simp only [dW,hl,cond_true,Lv, ← this,ht,hb]
    exact⟨h.h,hk⟩
theorem Ic {fz:Nat→Bool} {τ:Nat} {v:SV} {s:St}:dJ fz (fun s K=>take1 τ s v fun a q s'=>K (a,q) s') s (eR v) (eR v):=by
 cases v with
 |data a=>exact dJ.pure (x:=(a,a.flat))
 |aj=>exact dJ.pure (x:=(AV.sl [],true))
 |fr l=>exact dJ.pure (x:=(AV.sl l,false))
 |argv i j a=>exact dJ.false fun K h=>h
 |own σ g=>
  intro hz K h
  simp only [take1] at h
  split at h
  ·rename_i tk htk
   cases hg:Nat.beq tk.gen g with
   |false=>simp [hg] at h
   |true=>
    simp only [hg,cond_true] at h
    refine⟨(.sl tk.l,tk.lin&& !Nat.beq σ τ),[.tok σ { tk with frz:=true,lin:=tk.lin&&Nat.beq σ τ }],h,hz.aS rfl,by simp [Wr.nP],by simp [Wr.key,eR],fun t hn hR K' hk=>?_⟩
    have:=hR (.tok σ) (by simp [eR]);simp only [same] at this
    have ht:t.tok σ=some tk:=by rw [← this,htk]
    simp only [take1,ht,hg,cond_true]
    exact hk
  ·exact h.elim
 |undef|gone|iW|box|bsl|ref|old|bQ|fn|fnr|gW|tup=>exact dJ.false fun K h=>h
theorem Ie {fz:Nat→Bool} {τ:Nat}:∀{l:List SV} {s:St},dJ fz (fun s K=>wW τ s l fun a q s'=>K (a,q) s') s (eRL l) (eRL l)
 |[],_=>dJ.pure (x:=(([]:List AV),true))
 |v::r,_=>(Ic (τ:=τ) (v:=v)).bind (G:=fun x s1 K=>wW τ s1 r fun as q' s2=>K (x.1::as,x.2&&q') s2) fun x _ _=>(Ie (τ:=τ) (l:=r)).map fun y=>(x.1::y.1,x.2&&y.2)
theorem QM {fz:Nat→Bool} {τ:Nat} {v:SV} {s:St}:dJ fz (fun s K=>qP τ s v fun a q s'=>K (a,q) s') s (eRV v) (eRV v):=by
 cases v with
 |gW l=>exact (Ie (τ:=τ) (l:=l)).map fun y=>(AV.agg y.1,y.2)
 |own σ g=>exact (Ic (τ:=τ) (v:=.own σ g))
 |data a=>exact dJ.pure (x:=(a,a.flat))
 |aj=>exact dJ.pure (x:=(AV.sl [],true))
 |fr l=>exact dJ.pure (x:=(AV.sl l,false))
 |argv i j a=>exact dJ.false fun K h=>h
 |undef|gone|iW|box|bsl|ref|old|bQ|fn|fnr|tup=>exact dJ.false fun K h=>h
mutual
def RV.toks (τ:Nat):RV→List Key
 | .own _ _=>[.tok τ]
 | .lin _ _=>[.tok τ]
 | .agg l=>RV.yY (τ*10+1) l
 | .tup l=>RV.yY (τ*10+1) l
 |_=>[]
def RV.yY (τ:Nat):List RV→List Key
 |[]=>[]
 |r::rs=>RV.toks τ r++RV.yY (τ+1) rs
end
theorem pW {s:St} {τ E:Nat} {l:List AV} {q:Bool}:∃v ws,dS s τ E l q=(v,s.app ws)∧(∀w∈ws,w.nP=true)∧(∀w∈ws,w.key∈[Key.tok τ])∧∀t,same (.tok τ) s t→dS t τ E l q=(v,t.app ws):=by
 refine⟨_,[.tok τ ⟨iP (s.tok τ),false,E,l,q⟩],rfl,by simp [Wr.nP],by simp [Wr.key],fun t ht=>?_⟩
 simp only [same] at ht
 simp only [dS,ht,St.app,St.wr]
mutual
theorem Jw (A:List SV):∀(r:RV) (s:St) (τ:Nat),∃v ws,RV.lay A s τ r=(v,s.app ws)∧(∀w∈ws,w.nP=true)∧(∀w∈ws,w.key∈RV.toks τ r)∧
  ∀t,t.n=s.n→(∀k∈RV.toks τ r,same k s t)→RV.lay A t τ r=(v,t.app ws)
 | .d a,s,τ=>⟨_,[],rfl,by simp,by simp,fun t _ _=>rfl⟩
 | .aj,s,τ=>⟨_,[],rfl,by simp,by simp,fun t _ _=>rfl⟩
 | .fr l,s,τ=>⟨_,[],rfl,by simp,by simp,fun t _ _=>rfl⟩
 | .arg i off n,s,τ=>⟨_,[],rfl,by simp,by simp,fun t _ _=>rfl⟩
 | .junk,s,τ=>⟨_,[],rfl,by simp,by simp,fun t _ _=>rfl⟩
 | .eff _ _ _,s,τ=>⟨_,[],rfl,by simp,by simp,fun t _ _=>rfl⟩
 | .ptr _,s,τ=>⟨_,[],rfl,by simp,by simp,fun t _ _=>rfl⟩
 | .own E l,s,τ=>by
  obtain⟨v,ws,h1,h2,h3,h4⟩:=pW (s:=s) (τ:=τ) (E:=E) (l:=l) (q:=false)
  exact⟨v,ws,by simpa [RV.lay] using h1,h2,by simpa [RV.toks] using h3,fun t _ ht=>by simpa [RV.lay] using h4 t (ht _ (by simp [RV.toks]))⟩
 | .lin E l,s,τ=>by
  obtain⟨v,ws,h1,h2,h3,h4⟩:=pW (s:=s) (τ:=τ) (E:=E) (l:=l) (q:=true)
  exact⟨v,ws,by simpa [RV.lay] using h1,h2,by simpa [RV.toks] using h3,fun t _ ht=>by simpa [RV.lay] using h4 t (ht _ (by simp [RV.toks]))⟩
 | .agg l,s,τ=>by
  obtain⟨v,ws,h1,h2,h3,h4⟩:=yZ A l s (τ*10+1)
  exact⟨.gW v,ws,by simp [RV.lay,h1],h2,by simpa [RV.toks] using h3,fun t hn ht=>by simp [RV.lay,h4 t hn (by simpa [RV.toks] using ht)]⟩
 | .tup l,s,τ=>by
  obtain⟨v,ws,h1,h2,h3,h4⟩:=yZ A l s (τ*10+1)
  exact⟨.tup v,ws,by simp [RV.lay,h1],h2,by simpa [RV.toks] using h3,fun t hn ht=>by simp [RV.lay,h4 t hn (by simpa [RV.toks] using ht)]⟩
theorem yZ (A:List SV):∀(l:List RV) (s:St) (τ:Nat),∃v ws,RV.lI A s τ l=(v,s.app ws)∧(∀w∈ws,w.nP=true)∧(∀w∈ws,w.key∈RV.yY τ l)∧
  ∀t,t.n=s.n→(∀k∈RV.yY τ l,same k s t)→RV.lI A t τ l=(v,t.app ws)
 |[],s,τ=>⟨[],[],rfl,by simp,by simp,fun t _ _=>rfl⟩
 |r::rs,s,τ=>by
  obtain⟨v,ws,h1,h2,h3,h4⟩:=Jw A r s τ
  obtain⟨vs,us,g1,g2,g3,g4⟩:=yZ A rs (s.app ws) (τ+1)
  refine⟨v::vs,ws++us,?_,?_,?_,?_⟩
  ·simp [RV.lI,h1,g1,St.aH]
  ·intro w hw;exact (List.mem_append.1 hw).elim (h2 w) (g2 w)
  ·intro w hw
   simp only [RV.yY]
   rcases List.mem_append.1 hw with hw|hw
   ·exact List.mem_append_left _ (h3 w hw)
   ·exact List.mem_append_right _ (g3 w hw)
  ·intro t hn ht
   simp only [RV.yY] at ht
   have e1:=h4 t hn fun k hk=>ht k (List.mem_append_left _ hk)
   have e2:=g4 (t.app ws) (by simp [St.rZ,hn]) fun k hk=>fQ hn.symm (ht k (List.mem_append_right _ hk))
   simp [RV.lI,e1,e2,St.aH]
end
def oK:Operand→List Key
 | .tmp t=>[.slot t]
 |_=>[]
def oKs:List Operand→List Key
 |[]=>[]
 |x::r=>oK x++oKs r
def dK:Option Nat→List Key
 |some d=>[.slot d]
 |none=>[]
def sK:SV→List Key
 | .own τ _=>[.tok τ]
 | .iW τ _ _ _=>[.tok τ]
 | .box d _ _=>[.mem d]
 | .bsl d _ _=>[.mem d]
 |_=>[]
def sKs:List SV→List Key
 |[]=>[]
 |v::r=>sK v++sKs r
def iH (d:Option Nat) (v:SV):List Wr:=match d with|some d=>[.slot d v]|none=>[]
theorem aB {s:St} {d:Option Nat} {v:SV}:s.put d v=s.app (iH d v):=by cases d<;>rfl
theorem aR {d:Option Nat} {v:SV}:∀w∈iH d v,w.key∈dK d:=by cases d<;>simp [iH,dK,Wr.key]
theorem bn {s t:St} {x:Operand} (h:∀k∈oK x,same k s t):t.ev x=s.ev x:=by
 cases x with
 |tmp i=>have:=h (.slot i) (by simp [oK]);simp only [same] at this;simp [St.ev,this]
 |const v=>rfl
 |func f=>rfl
 |_=>rfl
theorem nQ {s t:St}:∀{l:List Operand},(∀k∈oKs l,same k s t)→l.map t.ev=l.map s.ev
 |[],_=>rfl
 |x::r,h=>by
  simp only [oKs,List.mem_append] at h
  simp only [List.map_cons]
  rw [bn fun k hk=>h k (.inl hk),nQ fun k hk=>h k (.inr hk)]
theorem fM {s t:St} {v:SV} (h:∀k∈sK v,same k s t):v.stands t=v.stands s:=by
 cases v with
 |own τ g=>have:=h (.tok τ) (by simp [sK]);simp only [same] at this;simp [SV.stands,this]
 |iW τ g k off=>have:=h (.tok τ) (by simp [sK]);simp only [same] at this;simp [SV.stands,this]
 |box d g off=>have:=h (.mem d) (by simp [sK]);simp only [same] at this;simp [SV.stands,this]
 |bsl d g n=>have:=h (.mem d) (by simp [sK]);simp only [same] at this;simp [SV.stands,this]
 |_=>rfl
theorem tu {s t:St} {v:SV} (h:∀k∈sK v,same k s t):t.content v=s.content v:=by
 cases v with
 |own τ g=>have:=h (.tok τ) (by simp [sK]);simp only [same] at this;simp [St.content,this]
 |data a=>cases a<;>rfl
 |_=>rfl
theorem QN {s t:St} {v:SV} (h:∀k∈sK v,same k s t):t.cont v=s.cont v:=by
 have:=tu h
 cases v with
 |old a=>cases a<;>rfl
 |_=>simpa only [St.cont] using this
def One {α:Type} (F:(α→Prop)→Prop):Prop:=∀K,F K→∃x,K x∧∀K',K' x→F K'
theorem One.pure {α:Type} {x:α}:One (fun K=>K x):=fun _ h=>⟨x,h,fun _ h=>h⟩
theorem One.none {α:Type} {F:(α→Prop)→Prop} (h:∀K,¬ F K):One F:=fun K hh=>(h K hh).elim
theorem One.vc {α:Type} {p:Prop} {F:(α→Prop)→Prop} (h:One F):One (fun K=>VC p (F K)):=fun K hh=>by
 obtain⟨x,h1,h2⟩:=h K hh.k
 exact⟨x,h1,fun K' hk=>⟨hh.h,h2 K' hk⟩⟩
theorem One.arith {α:Type} {k:IntKind} {r:Int} {f:Int→α}:One (fun K=>Arith k r fun r=>K (f r)):=fun _ h=>⟨_,h.h,fun _ hk=>⟨hk⟩⟩
theorem One.bif {α:Type} {b:Bool} {F G:(α→Prop)→Prop} (h:One F) (h':One G):One (fun K=>bif b then F K else G K):=by cases b<;>assumption
theorem One.no {α:Type}:One (fun _:α→Prop=>False):=fun _ h=>h.elim
theorem Sd {op:BinOp} {k:IntKind} {x y:Int}:One (RO op k x y):=by
 cases op<;>first|exact One.arith|exact One.vc One.arith|exact One.vc One.pure|exact One.pure|exact One.no
theorem UG {op:BinOp} {k:IntKind} {x y:Int}:One (fun K:AV→Prop=>match op with| .shr=>VC (0≤y) (K (.int k (x.fdiv (2 ^ min y.toNat k.bits))))|_=>False):=by
 cases op<;>first|exact One.vc One.pure|exact One.no
theorem Sg {T:Nat→Ty} {L:Nat} {op:BinOp} {t:Nat} {a b:AV}:One (DY T L op t a b):=by
 intro K h
 unfold DY at h
 split at h
 ·rename_i k x k' y
  cases hb:decide (k=k') with
  |false=>
   simp only [hb,cond_false] at h
   obtain⟨v,h1,h2⟩:=UG K h
   exact⟨v,h1,fun K' hk=>by simp only [DY,hb,cond_false];exact h2 K' hk⟩
  |true=>
   simp only [hb,cond_true] at h
   obtain⟨v,h1,h2⟩:=Sd K h
   exact⟨v,h1,fun K' hk=>by simp only [DY,hb,cond_true];exact h2 K' hk⟩
 ·split at h
  ·exact⟨_,h,fun K' hk=>hk⟩
  ·exact⟨_,h,fun K' hk=>hk⟩
  ·exact⟨_,h.k,fun K' hk=>⟨h.h,hk⟩⟩
  ·exact h.elim
 ·cases hb:decide ((T t).kind= .bool) with
  |false=>simp only [hb,cond_false] at h
  |true=>
   simp only [hb,cond_true] at h
   split at h
   ·exact⟨_,h,fun K' hk=>by simp only [DY,hb,cond_true];exact hk⟩
   ·exact⟨_,h,fun K' hk=>by simp only [DY,hb,cond_true];exact hk⟩
   ·exact h.elim
 ·rename_i l m
  cases hb:Ji T t l with
  |false=>simp only [hb,cond_false] at h
  |true=>
   simp only [hb,cond_true] at h
   cases he:lJ l m with
   |none=>simp only [he] at h
   |some b=>
    simp only [he] at h
    cases op<;>first|exact h.elim|exact⟨_,h,fun K' hk=>by simp only [DY,hb,cond_true,he];exact hk⟩
 ·exact h.elim
theorem UH {op:UnOp} {v:SV}:One (unA op v):=by
 unfold One
 intro K h
 unfold unA at h
 split at h
 ·exact⟨_,h,fun K' hk=>hk⟩
 ·exact⟨_,h.h,fun K' hk=>⟨hk⟩⟩
 ·exact h.elim
theorem vE {ty:Ty} {a:AV}:One (eO ty a):=by
 unfold eO
 refine One.bif One.no (One.bif ?_ ?_)
 ·cases a<;>first|exact One.no|exact One.bif One.pure One.no
 ·cases a<;>first|exact One.no|exact One.pure
theorem Ce {ty:Ty} {cells:List SV} {off:Nat}:One (jD ty cells off):=by
 unfold jD
 refine One.bif One.no (One.bif (One.bif One.pure One.no) ?_)
 cases cells[off]? with
 |none=>exact One.no
 |some v=>exact One.pure
theorem tC {l:List AV} {i:Int}:∀K:Nat→AV→Prop,Idx l i K→∃j x,K j x∧∀K':Nat→AV→Prop,K' j x→Idx l i K':=by
 rintro K ⟨j,x,hi,hx,hk⟩
 exact⟨j,x,hk,fun K' h=>⟨j,x,hi,hx,h⟩⟩
def Writes (T:Nat→Ty) (C:Nat→List AR→(RV→Prop)→Prop) (L:Nat) (o:Oper) (s:St) (R W:List Key):Prop:=
 ∀K:St→Prop,aop T C L o s K→∃ws,K (s.app ws)∧(∀w∈ws,w.key∈W)∧∀t:St,t.n=s.n→(∀k∈R,same k s t)→∀K':St→Prop,K' (t.app ws)→aop T C L o t K'
theorem Writes.put {T:Nat→Ty} {C:Nat→List AR→(RV→Prop)→Prop} {L:Nat} {o:Oper} {s:St} {R:List Key} {F:(SV→Prop)→Prop} (hF:One F)
  (hs:∀K,aop T C L o s K→F fun v=>K (s.put o.dst v))
  (ht:∀t:St,t.n=s.n→(∀k∈R,same k s t)→∀K,(F fun v=>K (t.put o.dst v))→aop T C L o t K):Writes T C L o s R (dK o.dst):=by
 intro K h
 obtain⟨v,hv,hb⟩:=hF _ (hs K h)
 refine⟨iH o.dst v,by rwa [← aB],aR,fun t hn hR K' hk=>ht t hn hR K' (hb _ ?_)⟩
 rwa [aB]
theorem Writes.no {T:Nat→Ty} {C:Nat→List AR→(RV→Prop)→Prop} {L:Nat} {o:Oper} {s:St} {R W:List Key} (h:∀K,¬ aop T C L o s K):Writes T C L o s R W:=
 fun K hh=>(h K hh).elim
section
variable {T:Nat→Ty} {C:Nat→List AR→(RV→Prop)→Prop} {L:Nat} {o:Oper} {s:St}
theorem Si {x:Operand} (ho:o.op= .move x∨o.op= .assign x):Writes T C L o s (oK x) (dK o.dst):=by
 have e:∀(u:St) K,aop T C L o u K=K (u.put o.dst (u.ev x)):=by
  intro u K;unfold aop;rcases ho with ho|ho<;>rw [ho]
 refine Writes.put (F:=fun K=>K (s.ev x)) One.pure (fun K h=>by rwa [e] at h) fun t hn hR K h=>?_
 rw [e,bn hR];exact h
theorem Wt {c:Nat} {a b:Operand} (ho:o.op= .pick (.tmp c) a b) (hc:Nat.blt c s.n=true):Writes T C L o s (.slot c::(oK a++oK b)) (dK o.dst):=by
 have e:∀(u:St) K,aop T C L o u K=(match u.get c with
  | .data (.bool t)=>Br t fun t=>K ((u.set c (.data (.bool t))).put o.dst (bif t then u.ev a else u.ev b))
  |_=>False):=by
  intro u K;unfold aop;rw [ho]<;>rfl
 intro K h
 rw [e] at h
 split at h
 ·rename_i v hv
  have hself:∀u:St,u.n=s.n→u.get c= .data (.bool v)→u.set c (.data (.bool v))=u:=by
   intro u hun hu
   refine St.ext' rfl fun k=>?_
   cases k with
   |slot i=>
    simp only [same,St.set]
    cases hb:Nat.beq i c with
    |true=>rw [Nat.eq_of_beq_eq_true hb,hu,hun,hc];rfl
    |false=>rfl
   |mem d=>rfl
   |tok τ=>rfl
  have hb:K (s.put o.dst (bif v then s.ev a else s.ev b)):=by
   cases v with
   |true=>have:=h.t rfl;rwa [hself s rfl hv] at this
   |false=>have:=h.f rfl;rwa [hself s rfl hv] at this
  refine⟨iH o.dst (bif v then s.ev a else s.ev b),by rwa [← aB],aR,fun t hn hR K' hk=>?_⟩
  have hg:t.get c= .data (.bool v):=by
   have:=hR (.slot c) (by simp);simp only [same] at this;rw [← this,hv]
  have ha:t.ev a=s.ev a:=bn fun k hk=>hR k (by simp [hk])
  have hb':t.ev b=s.ev b:=bn fun k hk=>hR k (by simp [hk])
  rw [← aB] at hk
  rw [e,hg]
  refine⟨fun hv'=>?_,fun hv'=>?_⟩
  ·subst hv';rw [hself t hn hg,ha];exact hk
  ·subst hv';rw [hself t hn hg,hb'];exact hk
 ·exact h.elim
theorem UJ {E:Nat} (ho:o.op= .alloc E) {d:Nat} (hd:o.dst=some d):Writes T C L o s [.mem d] [.mem d,.slot d]:=by
 have e:∀(u:St) K,aop T C L o u K=(bif (T E).good&&Nat.blt d 1000000 then (let r:=bB u d ((T E).zero.map uJ);K (r.2.set d r.1)) else False):=by
  intro u K;unfold aop;rw [ho,hd]<;>rfl
 intro K h
 rw [e] at h
 cases hg:((T E).good&&Nat.blt d 1000000) with
 |false=>simp only [hg,cond_false] at h
 |true=>
  simp only [hg,cond_true,bB] at h
  refine⟨[.mem d (fJ (s.mem d)) ((T E).zero.map uJ),.slot d (.box d (fJ (s.mem d)) 0)],h,by simp [Wr.key],fun t hn hR K' hk=>?_⟩
  have:=hR (.mem d) (by simp);simp only [same] at this
  rw [e,hg]
  simp only [cond_true,bB, ← this]
  exact hk
theorem Wu {t:Nat} {a:Operand} (ho:o.op= .load t a):Writes T C L o s (oK a++sK (s.ev a)) (dK o.dst):=by
 have e:∀(u:St) K,aop T C L o u K=(match u.ev a with
  | .ref x=>eO (T t) x fun v=>K (u.put o.dst (.data v))
  | .bQ x=>eO (T t) x fun v=>K (u.put o.dst (Lu v))
  | .box d g off=>(match u.mem d with
   |some (g',cells)=>bif Nat.beq g' g then jD (T t) cells off fun v=>K (u.put o.dst v) else False
   |none=>False)
  | .iW τ g k off=>(match u.tok τ with
   |some tk=>bif Nat.beq tk.gen g&& !tk.frz then
     Idx tk.l k fun _ x=>(match bJ x.cells off (T t) with
      |some v=>bif Nat.ble (off+(T t).size) x.cells.length then eO (T t) v fun v=>K (u.put o.dst (.data v)) else False
      |none=>False) else False
   |none=>False)
  |_=>False):=by
  intro u K;unfold aop;rw [ho]<;>rfl
 intro K h
 rw [e] at h
 split at h
 ·rename_i x hx
  obtain⟨v,h1,h2⟩:=vE _ h
  refine⟨iH o.dst (.data v),by rwa [← aB],aR,fun u hn hR K' hk=>?_⟩
  rw [e,bn (fun k hk=>hR k (List.mem_append_left _ hk)),hx]
  refine h2 _ ?_
  rwa [aB]
 ·rename_i x hx
  obtain⟨v,h1,h2⟩:=vE _ h
  refine⟨iH o.dst (Lu v),by rwa [← aB],aR,fun u hn hR K' hk=>?_⟩
  rw [e,bn (fun k hk=>hR k (List.mem_append_left _ hk)),hx]
  refine h2 _ ?_
  rwa [aB]
 ·rename_i d g off hx
  split at h
  ·rename_i g' cells hm
   cases hg:Nat.beq g' g with
   |false=>simp [hg] at h
   |true=>
    simp only [hg,cond_true] at h
    obtain⟨v,h1,h2⟩:=Ce _ h
    refine⟨iH o.dst v,by rwa [← aB],aR,fun u hn hR K' hk=>?_⟩
    have hm':u.mem d=some (g',cells):=by
     have:=hR (.mem d) (by simp [hx,sK]);simp only [same] at this;rw [← this,hm]
    rw [e,bn (fun k hk=>hR k (List.mem_append_left _ hk)),hx]
    simp only [hm',hg,cond_true]
    refine h2 _ ?_
    rwa [aB]
  ·exact h.elim
 ·rename_i τ g k off hx
  split at h
  ·rename_i tk hm
   cases hg:(Nat.beq tk.gen g&& !tk.frz) with
   |false=>simp only [hg,cond_false] at h
   |true=>
    simp only [hg,cond_true] at h
    obtain⟨j,x,hj,hb⟩:=tC _ h
    split at hj
    ·rename_i v hv
     cases hl:Nat.ble (off+(T t).size) x.cells.length with
     |false=>simp [hl] at hj
     |true=>
      simp only [hl,cond_true] at hj
      obtain⟨w,h1,h2⟩:=vE _ hj
      refine⟨iH o.dst (.data w),by rwa [← aB],aR,fun u hn hR K' hk=>?_⟩
      have hm':u.tok τ=some tk:=by
       have:=hR (.tok τ) (by simp [hx,sK]);simp only [same] at this;rw [← this,hm]
      rw [e,bn (fun k hk=>hR k (List.mem_append_left _ hk)),hx]
      simp only [hm',hg,cond_true]
      refine hb _ ?_
      simp only [hv,hl,cond_true]
      refine h2 _ ?_
      rwa [aB]
    ·exact hj.elim
  ·exact h.elim
 ·exact h.elim
theorem UK {op:BinOp} {t:Nat} {x y:Operand} {z:TypeId} {q:AV} (ho:o.op= .binOp op t x y z) (hy:s.ev y= .data q):Writes T C L o s (oK x++oK y) (dK o.dst):=by
 have e:∀(u:St) K,u.ev y= .data q→aop T C L o u K=(match u.ev x with
  | .data a=>DY T L op t a q fun v=>K (u.put o.dst (.data v))
  |_=>False):=by
  intro u K hu;unfold aop;rw [ho];simp only [hu];try (cases u.ev x<;>rfl)
 intro K h
 rw [e _ _ hy] at h
 split at h
 ·rename_i a ha
  obtain⟨v,h1,h2⟩:=Sg _ h
  refine⟨iH o.dst (.data v),by rwa [← aB],aR,fun u hn hR K' hk=>?_⟩
  rw [e _ _ (by rw [bn (fun k hk=>hR k (List.mem_append_right _ hk)),hy]),bn (fun k hk=>hR k (List.mem_append_left _ hk)),ha]
  refine h2 _ ?_
  rwa [aB]
 ·exact h.elim
theorem Wv {op:UnOp} {t:TypeId} {x:Operand} (ho:o.op= .unOp op t x):Writes T C L o s (oK x) (dK o.dst):=by
 have e:∀(u:St) K,aop T C L o u K=unA op (u.ev x) fun v=>K (u.put o.dst v):=by
  intro u K;unfold aop;rw [ho]<;>rfl
 refine Writes.put (F:=fun K=>unA op (s.ev x) K) UH (fun K h=>by rwa [e] at h) fun t hn hR K h=>?_
 rw [e,bn hR];exact h
theorem QO {src t:TypeId} {x:Operand} (ho:o.op= .convert src t x):Writes T C L o s (oK x) (dK o.dst):=by
 have e:∀(u:St) K,aop T C L o u K=(match (T src).kind,(T t).kind,u.ev x with
  | .int _,.int k,.data (.int _ n)=>K (u.put o.dst (.data (.int k (k.wrap n))))
  |_,_,_=>False):=by
  intro u K;unfold aop;rw [ho]<;>rfl
 intro K h
 rw [e] at h
 split at h
 ·rename_i hks hk hx
  refine⟨iH o.dst _,by rwa [← aB],aR,fun u hn hR K' hk'=>?_⟩
  rw [e,bn hR,hx,hks,hk]
  simp only
  rwa [aB]
 ·exact h.elim
theorem QS {x:Operand} {i:Nat} (ho:o.op= .extract x i):Writes T C L o s (oK x) (dK o.dst):=by
 have e:∀(u:St) K,aop T C L o u K=(match u.ev x with
  | .tup l=>(match l[i]? with|some v=>K (u.put o.dst v)|none=>False)
  |_=>False):=by
  intro u K;unfold aop;rw [ho]<;>rfl
 intro K h
 rw [e] at h
 split at h
 ·rename_i l hl
  split at h
  ·rename_i v hv
   refine⟨iH o.dst v,by rwa [← aB],aR,fun u hn hR K' hk=>?_⟩
   rw [e,bn hR,hl]
   simp only [hv]
   rwa [aB]
  ·exact h.elim
 ·exact h.elim
theorem UL {t:TypeId} {x:Operand} {f:Nat} (ho:o.op= .field t x f):Writes T C L o s (oK x) (dK o.dst):=by
 have e:∀(u:St) K,aop T C L o u K=(match u.ev x,gX T t f with
  | .data (.agg l),some (fo,ft)=>(match bJ l fo (T ft),Nat.beq l.length (T t).size with
   |some v,true=>K (u.put o.dst (.data v))
   |_,_=>False)
  | .old (.agg l),some (fo,ft)=>(match bJ l fo (T ft),Nat.beq l.length (T t).size with
   |some v,true=>K (u.put o.dst (oJ v))
   |_,_=>False)
  | .gW l,some (fo,ft)=>bif Nat.beq l.length (T t).size then jD (T ft) l fo fun v=>K (u.put o.dst v) else False
  |_,_=>False):=by
  intro u K;unfold aop;rw [ho]<;>rfl
 intro K h
 rw [e] at h
 split at h
 ·rename_i l fo ft hl hf
  split at h
  ·rename_i v hv hb
   refine⟨iH o.dst (.data v),by rwa [← aB],aR,fun u hn hR K' hk=>?_⟩
   rw [e,bn hR,hl,hf]
   simp only [hv,hb]
   rwa [aB]
  ·exact h.elim
 ·rename_i l fo ft hl hf
  split at h
  ·rename_i v hv hb
   refine⟨iH o.dst (oJ v),by rwa [← aB],aR,fun u hn hR K' hk=>?_⟩
   rw [e,bn hR,hl,hf]
   simp only [hv,hb]
   rwa [aB]
  ·exact h.elim
 ·rename_i l fo ft hl hf
  cases hb:Nat.beq l.length (T t).size with
  |false=>simp [hb] at h
  |true=>
   simp only [hb,cond_true] at h
   obtain⟨v,hv,hk2⟩:=Ce _ h
   refine⟨iH o.dst v,by rwa [← aB],aR,fun u hn hR K' hk=>?_⟩
   rw [e,bn hR,hl,hf]
   simp only [hb,cond_true]
   exact hk2 _ (by rwa [aB])
 ·exact h.elim
theorem Oq {x:Operand} (ho:o.op= .nilCheck x):Writes T C L o s (oK x++sK (s.ev x)) (dK o.dst):=by
 have e:∀(u:St) K,aop T C L o u K=(match u.ev x with
  | .box d g off=>bif (SV.box d g off).stands u then K (u.put o.dst (.box d g off)) else False
  | .ref a=>K (u.put o.dst (.ref a))
  | .bQ a=>K (u.put o.dst (.bQ a))
  | .fn f c=>K (u.put o.dst (.fn f c))
  | .fnr f c=>K (u.put o.dst (.fnr f c))
  |_=>False):=by
  intro u K;unfold aop;rw [ho]<;>rfl
 intro K h
 rw [e] at h
 split at h
 ·rename_i d g off hx
  cases hs:(SV.box d g off).stands s with
  |false=>simp [hs] at h
  |true=>
   simp only [hs,cond_true] at h
   refine⟨iH o.dst (.box d g off),by rwa [← aB],aR,fun u hn hR K' hk=>?_⟩
   rw [e,bn (fun k hk=>hR k (List.mem_append_left _ hk)),hx]
   simp only [fM (v:=.box d g off) (fun k hk=>hR k (List.mem_append_right _ (hx ▸ hk))),hs,cond_true]
   rwa [aB]
 all_goals first
  |exact h.elim
  |(rename_i hx
    refine⟨iH o.dst _,by rw [← aB];exact h,aR,fun u hn hR K' hk=>?_⟩
    rw [e,bn (fun k hk=>hR k (List.mem_append_left _ hk)),hx]
    rw [← aB] at hk;exact hk)
theorem LJ {t:TypeId} {x:Operand} {f:Nat} (ho:o.op= .fieldAddr t x f):Writes T C L o s (oK x++sK (s.ev x)) (dK o.dst):=by
 have e:∀(u:St) K,aop T C L o u K=(match u.ev x,gX T t f with
  | .box d g off,some (fo,_)=>bif (SV.box d g off).stands u then K (u.put o.dst (.box d g (off+fo))) else False
  | .ref (.agg l),some (fo,ft)=>(match bJ l fo (T ft) with
   |some v=>K (u.put o.dst (.ref v))
   |none=>False)
  | .bQ (.agg l),some (fo,ft)=>(match bJ l fo (T ft) with
   |some v=>K (u.put o.dst (.bQ v))
   |none=>False)
  | .iW τ g k off,some (fo,_)=>bif (SV.iW τ g k off).stands u then K (u.put o.dst (.iW τ g k (off+fo))) else False
  |_,_=>False):=by
  intro u K;unfold aop;rw [ho]<;>rfl
 intro K h
 rw [e] at h
 split at h
 ·rename_i d g off fo ft hx hf
  cases hs:(SV.box d g off).stands s with
  |false=>simp [hs] at h
  |true=>
   simp only [hs,cond_true] at h
   refine⟨iH o.dst (.box d g (off+fo)),by rwa [← aB],aR,fun u hn hR K' hk=>?_⟩
   rw [e,bn (fun k hk=>hR k (List.mem_append_left _ hk)),hx,hf]
   simp only [fM (v:=.box d g off) (fun k hk=>hR k (List.mem_append_right _ (hx ▸ hk))),hs,cond_true]
   rwa [aB]
 ·rename_i l fo ft hx hf
  split at h
  ·rename_i v hv
   refine⟨iH o.dst (.ref v),by rwa [← aB],aR,fun u hn hR K' hk=>?_⟩
   rw [e,bn (fun k hk=>hR k (List.mem_append_left _ hk)),hx,hf]
   simp only [hv]
   rwa [aB]
  ·exact h.elim
 ·rename_i l fo ft hx hf
  split at h
  ·rename_i v hv
   refine⟨iH o.dst (.bQ v),by rwa [← aB],aR,fun u hn hR K' hk=>?_⟩
   rw [e,bn (fun k hk=>hR k (List.mem_append_left _ hk)),hx,hf]
   simp only [hv]
   rwa [aB]
  ·exact h.elim
 ·rename_i τ g k off fo ft hx hf
  cases hs:(SV.iW τ g k off).stands s with
  |false=>simp [hs] at h
  |true=>
   simp only [hs,cond_true] at h
   refine⟨iH o.dst (.iW τ g k (off+fo)),by rwa [← aB],aR,fun u hn hR K' hk=>?_⟩
   rw [e,bn (fun k hk=>hR k (List.mem_append_left _ hk)),hx,hf]
   simp only [fM (v:=.iW τ g k off) (fun k hk=>hR k (List.mem_append_right _ (hx ▸ hk))),hs,cond_true]
   rwa [aB]
 ·exact h.elim
theorem LK {t:TypeId} {x i:Operand} (ho:o.op= .indexAddr t x i):Writes T C L o s (oK x++(oK i++sK (s.ev x))) (dK o.dst):=by
 have e:∀(u:St) K,aop T C L o u K=(match (T t).kind,u.ev x,u.ev i with
  | .slice E,.data (.sl l),.data (.int _ n)=>bif (T E).good then Idx l n fun _ x=>bif Nat.beq x.cells.length (T E).size then K (u.put o.dst (.ref x)) else False else False
  | .slice E,.old (.sl l),.data (.int _ n)=>bif (T E).good then Idx l n fun _ x=>bif Nat.beq x.cells.length (T E).size then K (u.put o.dst (.bQ x)) else False else False
  | .slice E,.fr l,.data (.int _ n)=>bif (T E).good then Idx l n fun _ x=>bif Nat.beq x.cells.length (T E).size then K (u.put o.dst (.ref x)) else False else False
  | .slice E,.own τ g,.data (.int _ n)=>(match u.tok τ with
   |some tk=>bif Nat.beq tk.gen g&&Nat.beq tk.E E&&(T E).good then
     (bif tk.frz then Idx tk.l n fun _ x=>bif Nat.beq x.cells.length (T E).size then K (u.put o.dst (.ref x)) else False
      else Idx tk.l n fun k _=>K (u.put o.dst (.iW τ g k 0))) else False
   |none=>False)
  | .slice E,.bsl d g m,.data (.int _ n)=>bif (SV.bsl d g m).stands u&&(T E).good then VC (0≤n∧n < m) (K (u.put o.dst (.box d g (n.toNat*(T E).size)))) else False
  |_,_,_=>False):=by
  intro u K;unfold aop;rw [ho]<;>rfl
 intro K h
 rw [e] at h
 have hev:∀u:St,(∀k∈oK x++(oK i++sK (s.ev x)),same k s u)→u.ev x=s.ev x∧u.ev i=s.ev i:=fun u hR=>
  ⟨bn fun k hk=>hR k (by simp [hk]),bn fun k hk=>hR k (by simp [hk])⟩
 split at h
 ·rename_i E l k n hT hx hi
  cases hg:(T E).good with
  |false=>simp [hg] at h
  |true=>
   simp only [hg,cond_true] at h
   obtain⟨j,y,hj,hb⟩:=tC _ h
   cases hl:Nat.beq y.cells.length (T E).size with
   |false=>simp [hl] at hj
   |true=>
    simp only [hl,cond_true] at hj
    refine⟨iH o.dst (.ref y),by rwa [← aB],aR,fun u hn hR K' hk=>?_⟩
    rw [e,(hev u hR).1,(hev u hR).2,hT,hx,hi]
    simp only [hg,cond_true]
    refine hb _ ?_
    simp only [hl,cond_true]
    rwa [aB]
 ·rename_i E l k n hT hx hi
  cases hg:(T E).good with
  |false=>simp [hg] at h
  |true=>
   simp only [hg,cond_true] at h
   obtain⟨j,y,hj,hb⟩:=tC _ h
   cases hl:Nat.beq y.cells.length (T E).size with
   |false=>simp [hl] at hj
   |true=>
    simp only [hl,cond_true] at hj
    refine⟨iH o.dst (.bQ y),by rwa [← aB],aR,fun u hn hR K' hk=>?_⟩
    rw [e,(hev u hR).1,(hev u hR).2,hT,hx,hi]
    simp only [hg,cond_true]
    refine hb _ ?_
    simp only [hl,cond_true]
    rwa [aB]
 ·rename_i E l k n hT hx hi
  cases hg:(T E).good with
  |false=>simp [hg] at h
  |true=>
   simp only [hg,cond_true] at h
   obtain⟨j,y,hj,hb⟩:=tC _ h
   cases hl:Nat.beq y.cells.length (T E).size with
   |false=>simp [hl] at hj
   |true=>
    simp only [hl,cond_true] at hj
    refine⟨iH o.dst (.ref y),by rwa [← aB],aR,fun u hn hR K' hk=>?_⟩
    rw [e,(hev u hR).1,(hev u hR).2,hT,hx,hi]
    simp only [hg,cond_true]
    refine hb _ ?_
    simp only [hl,cond_true]
    rwa [aB]
 ·rename_i E τ g k n hT hx hi
  split at h
  ·rename_i tk htk
   have Xv:∀u:St,(∀k∈oK x++(oK i++sK (s.ev x)),same k s u)→u.tok τ=some tk:=fun u hR=>by
    have:=hR (.tok τ) (by simp [hx,sK]);simp only [same] at this;rw [← this,htk]
   cases hg:(Nat.beq tk.gen g&&Nat.beq tk.E E&&(T E).good) with
   |false=>simp only [hg,cond_false] at h
   |true=>
    simp only [hg,cond_true] at h
    cases hf:tk.frz with
    |true=>
     simp only [hf,cond_true] at h
     obtain⟨j,y,hj,hb⟩:=tC _ h
     cases hl:Nat.beq y.cells.length (T E).size with
     |false=>simp [hl] at hj
     |true=>
      simp only [hl,cond_true] at hj
      refine⟨iH o.dst (.ref y),by rwa [← aB],aR,fun u hn hR K' hk=>?_⟩
      rw [e,(hev u hR).1,(hev u hR).2,hT,hx,hi]
      simp only [Xv u hR,hg,hf,cond_true]
      refine hb _ ?_
      simp only [hl,cond_true]
      rwa [aB]
    |false=>
     simp only [hf,cond_false] at h
     obtain⟨j,y,hj,hb⟩:=tC _ h
     refine⟨iH o.dst (.iW τ g j 0),by rwa [← aB],aR,fun u hn hR K' hk=>?_⟩
     rw [e,(hev u hR).1,(hev u hR).2,hT,hx,hi]
     simp only [Xv u hR,hg,hf,cond_true,cond_false]
     refine hb _ ?_
     rwa [aB]
  ·exact h.elim
 ·rename_i E d g m k n hT hx hi
  cases hs:((SV.bsl d g m).stands s&&(T E).good) with
  |false=>simp [hs] at h
  |true=>
   simp only [hs,cond_true] at h
   refine⟨iH o.dst (.box d g (n.toNat*(T E).size)),by rw [← aB];exact h.k,aR,fun u hn hR K' hk=>?_⟩
   rw [e,(hev u hR).1,(hev u hR).2,hT,hx,hi]
   have e2:(SV.bsl d g m).stands u=(SV.bsl d g m).stands s:=fM fun k hk=>hR k (by rw [hx];simp [hk])
   simp only [e2,hs,cond_true]
   exact⟨h.h,by rwa [aB]⟩
 ·exact h.elim
end
end Go.Proofs.YtpfgedlimdeffaaGreat.Abs
namespace Go.Proofs.YtpfgedlimdeffaaGreat.Abs
section
variable {T:Nat→Ty} {C:Nat→List AR→(RV→Prop)→Prop} {L:Nat} {o:Oper} {s:St}
def LM (s:St) (τ:Nat):Bool:=match s.tok τ with|some t=>t.frz|none=>false
theorem DR (s:St):Fz (LM s) s:=by
 intro τ h
 simp only [LM] at h
 split at h
 ·rename_i t ht;exact⟨t,ht,h⟩
 ·cases h
def pX (g:Operand→SV):List (Nat×Operand)→List Key
 |[]=>[]
 |(_,x)::r=>oK x++(sK (g x)++pX g r)
theorem Cg {fs:List (Nat×Nat)} {u:St}:∀{l:List (Nat×Operand)} {cells:List SV},(∀k∈pX s.ev l,same k s u)→kT T fs u l cells=kT T fs s l cells
 |[],_,_=>rfl
 |(i,x)::r,cells,h=>by
  simp only [pX,List.mem_append] at h
  have e1:u.ev x=s.ev x:=bn fun k hk=>h k (.inl hk)
  have e2:(s.ev x).stands u=(s.ev x).stands s:=fM fun k hk=>h k (.inr (.inl hk))
  have e3:∀cells,kT T fs u r cells=kT T fs s r cells:=fun cells=>Cg fun k hk=>h k (.inr (.inr hk))
  simp only [kT,e1,e2,e3]
theorem UM {t:TypeId} {parts:Array (Nat×Operand)} (ho:o.op= .build t parts):Writes T C L o s (pX s.ev parts.toList) (dK o.dst):=by
 have e:∀(u:St) K,aop T C L o u K=(match (T t).kind with
  | .struct fs=>(match kT T fs u parts.toList ((T t).zero.map uJ) with
   |some cells=>K (u.put o.dst (BX cells))
   |none=>False)
  |_=>False):=by
  intro u K;unfold aop;rw [ho]<;>rfl
 intro K h
 rw [e] at h
 split at h
 ·rename_i fs hT
  split at h
  ·rename_i cells hc
   refine⟨iH o.dst (BX cells),by rwa [← aB],aR,fun u hn hR K' hk=>?_⟩
   rw [e,hT]
   simp only [Cg hR,hc]
   rwa [aB]
  ·exact h.elim
 ·exact h.elim
def elR (g:Operand→SV):List (Nat×Operand)→List Key
 |[]=>[]
 |(_,x)::r=>(oK x++eRV (g x))++elR g r
def elW (g:Operand→SV):List (Nat×Operand)→List Key
 |[]=>[]
 |(_,x)::r=>eRV (g x)++elW g r
theorem Ww {ws:List Wr} (h:∀w∈ws,w.nP=true):(s.app ws).ev=s.ev:=by
 funext x
 cases x<;>simp [St.ev,PV h]
theorem Er {fz:Nat→Bool} {τ:Nat} {x:Operand}:dJ fz (fun s K=>qP τ s (s.ev x) fun a q s'=>K (a,q) s') s (oK x++eRV (s.ev x)) (eRV (s.ev x)):=by
 intro hz K h
 obtain⟨y,ws,h1,h2,h3,h4,h5⟩:=QM (fz:=fz) (τ:=τ) (v:=s.ev x) (s:=s) hz K h
 refine⟨y,ws,h1,h2,h3,h4,fun t hn hR K' hk=>?_⟩
 show qP τ t (t.ev x) fun a q s'=>K' (a,q) s'
 rw [bn fun k hk=>hR k (List.mem_append_left _ hk)]
 exact h5 t hn (fun k hk=>hR k (List.mem_append_right _ hk)) K' hk
theorem Ig {fz:Nat→Bool} {z:List ZC} {τ:Nat}:∀{l:List (Nat×Operand)} {i:Nat} {s:St},dJ fz (fun s K=>rD z τ s i l fun a q s'=>K (a,q) s') s (elR s.ev l) (elW s.ev l)
 |[],_,_=>dJ.pure (x:=(([]:List AV),true))
 |(j,x)::r,i,s=>by
  simp only [rD,elR,elW]
  cases hb:Nat.beq i j with
  |false=>exact dJ.false fun K h=>by simp at h
  |true=>
   simp only [cond_true]
   refine (Er (τ:=τ) (x:=x)).bind (G:=fun a s1 K=>bif bF z a.1.cells then rD z τ s1 (i+1) r fun as q' s2=>K (a.1::as,a.2&&q') s2 else False) fun a ws hws=>?_
   cases hc:bF z a.1.cells with
   |false=>exact dJ.false fun K h=>by simp at h
   |true=>
    simp only [cond_true]
    have:=(Ig (fz:=fz) (z:=z) (τ:=τ) (l:=r) (i:=i+1) (s:=s.app ws)).map fun as=>(a.1::as.1,a.2&&as.2)
    rwa [Ww hws] at this
theorem Ch {sz:Nat} {u:St}:∀{l:List (Nat×Operand)} {i:Nat},(∀k∈pX s.ev l,same k s u)→nX sz u i l=nX sz s i l
 |[],_,_=>rfl
 |(j,x)::r,i,h=>by
  simp only [pX,List.mem_append] at h
  have e1:u.ev x=s.ev x:=bn fun k hk=>h k (.inl hk)
  have e2:(s.ev x).stands u=(s.ev x).stands s:=fM fun k hk=>h k (.inr (.inl hk))
  simp only [nX,e1,e2,Ch (l:=r) (i:=i+1) fun k hk=>h k (.inr (.inr hk))]
theorem Jy {t:TypeId} {n:Nat} {parts:Array (Nat×Operand)} (ho:o.op= .buildSlice t n parts) {d:Nat} (hd:o.dst=some d):
  Writes T C L o s (.mem d::.tok d::(elR s.ev parts.toList++pX s.ev parts.toList)) (.mem d::.tok d::.slot d::elW s.ev parts.toList):=by
 have e:∀(u:St) K,aop T C L o u K=(match (T t).kind,(some d:Option Nat) with
  | .slice E,some d=>bif Nat.beq n parts.toList.length&&(T E).good&&Nat.ble (n*(T E).size) 1000&&Nat.blt d 1000000 then
    bif wide (T E) n then (match nX (T E).size u 0 parts.toList with
     |some cells=>(let r:=bB u d cells;K (r.2.set d (.bsl d (fJ (u.mem d)) n)))
     |none=>False)
    else rD (T E).zero d u 0 parts.toList fun as q s1=>(let r:=dS s1 d E as ((T E).flat||q);K (r.2.set d r.1)) else False
  |_,_=>False):=by
  intro u K;unfold aop;rw [ho,hd]<;>rfl
 intro K h
 rw [e] at h
 cases hT:(T t).kind with
 |slice E=>
  simp only [hT] at h
  cases hb:(Nat.beq n parts.toList.length&&(T E).good&&Nat.ble (n*(T E).size) 1000&&Nat.blt d 1000000) with
  |false=>simp only [hb,cond_false] at h
  |true=>
   simp only [hb,cond_true] at h
   cases hw:wide (T E) n with
   |true=>
    simp only [hw,cond_true] at h
    cases hc:nX (T E).size s 0 parts.toList with
    |none=>simp only [hc] at h
    |some cells=>
     simp only [hc] at h
     refine⟨[.mem d (fJ (s.mem d)) cells,.slot d (.bsl d (fJ (s.mem d)) n)],h,by simp [Wr.key],fun u hn hR K' hk=>?_⟩
     rw [e,hT]
     have e1:u.mem d=s.mem d:=by have:=hR (.mem d) (by simp);simp only [same] at this;exact this.symm
     simp only [hb,cond_true,hw,Ch (s:=s) (u:=u) (i:=0) (sz:=(T E).size) (l:=parts.toList) (fun k hk=>hR k (by simp [hk])),hc]
     simp only [bB,e1]
     exact hk
   |false=>
   simp only [hw,cond_false] at h
   obtain⟨as,ws,h1,h2,h3,h4,h5⟩:=Ig (s:=s) (z:=(T E).zero) (τ:=d) (DR s) (fun x s1=>K ((dS s1 d E x.1 ((T E).flat||x.2)).2.set d (dS s1 d E x.1 ((T E).flat||x.2)).1)) h
   obtain⟨v,us,g1,g2,g3,g4⟩:=pW (s:=s.app ws) (τ:=d) (E:=E) (l:=as.1) (q:=(T E).flat||as.2)
   rw [g1] at h1
   refine⟨ws++(us++[.slot d v]),by rw [St.aH,St.aH];exact h1,?_,fun u hn hR K' hk=>?_⟩
   ·intro w hw
    rcases List.mem_append.1 hw with hw|hw
    ·exact List.mem_cons_of_mem _ (List.mem_cons_of_mem _ (List.mem_cons_of_mem _ (h4 w hw)))
    ·rcases List.mem_append.1 hw with hw|hw
     ·have:=g3 w hw;simp at this;simp [this]
     ·simp at hw;subst hw;simp [Wr.key]
   ·rw [e,hT]
    simp only [hb,cond_true,hw,cond_false]
    refine h5 u hn (fun k hk=>hR k (List.mem_cons_of_mem _ (List.mem_cons_of_mem _ (List.mem_append_left _ hk)))) (fun x s1=>K' ((dS s1 d E x.1 ((T E).flat||x.2)).2.set d (dS s1 d E x.1 ((T E).flat||x.2)).1)) ?_
    rw [g4 (u.app ws) (fQ hn.symm (hR _ (by simp)))]
    rw [St.aH,St.aH] at hk;exact hk
 |_=>simp only [hT] at h
theorem Ot {t:TypeId} {a x:Operand} (ho:o.op= .store t a x) {d g off:Nat} (ha:s.ev a= .box d g off):
  Writes T C L o s (oK a++(oK x++(.mem d::sK (s.ev x)))) (.mem d::dK o.dst):=by
 have e:∀(u:St) K,u.ev a= .box d g off→aop T C L o u K=(match (u.ev x).cells,u.mem d with
   |some new,some (g',cells)=>bif Nat.beq g' g&&(T t).good&&(u.ev x).stands u&&Nat.beq new.length (T t).size&&Nat.ble (off+new.length) cells.length then
     K ((u.bU d g (splice cells off new)).put o.dst .undef) else False
   |_,_=>False):=by
  intro u K h;unfold aop;rw [ho];simp only [h]<;>rfl
 intro K h
 rw [e s K ha] at h
 split at h
 ·rename_i new g' cells hc hm
  cases hb:(Nat.beq g' g&&(T t).good&&(s.ev x).stands s&&Nat.beq new.length (T t).size&&Nat.ble (off+new.length) cells.length) with
  |false=>simp only [hb,cond_false] at h
  |true=>
   simp only [hb,cond_true] at h
   refine⟨.mem d g (splice cells off new)::iH o.dst .undef,by rw [aB] at h;exact h,?_,fun u hn hR K' hk=>?_⟩
   ·intro w hw
    rcases List.mem_cons.1 hw with rfl|hw
    ·simp [Wr.key]
    ·exact List.mem_cons_of_mem _ (aR w hw)
   ·have e1:u.ev a=s.ev a:=bn fun k hk=>hR k (by simp [hk])
    have e2:u.ev x=s.ev x:=bn fun k hk=>hR k (by simp [hk])
    have e3:u.mem d=some (g',cells):=by
     have:=hR (.mem d) (by simp);simp only [same] at this;rw [← this,hm]
    have e4:(s.ev x).stands u=(s.ev x).stands s:=fM fun k hk=>hR k (by simp [hk])
    rw [e u K' (by rw [e1,ha]),e2,e3]
    simp only [hc,e4,hb,cond_true]
    rw [aB];exact hk
 ·exact h.elim
theorem LP {t:TypeId} {a x:Operand} (ho:o.op= .store t a x) {τ g k off:Nat} (ha:s.ev a= .iW τ g k off):
  Writes T C L o s (oK a++(.tok τ::(oK x++eRV (s.ev x)))) (.tok τ::(dK o.dst++eRV (s.ev x))):=by
 have e:∀(u:St) K,u.ev a= .iW τ g k off→aop T C L o u K=(bif (T t).good then qP τ u (u.ev x) fun v q s1=>(match s1.tok τ with
   |some tk=>bif Nat.beq tk.gen g&& !tk.frz&&bF (T t).zero v.cells&&uX (T tk.E) (T t) off then
     Idx tk.l k fun j e=>bif Nat.ble (off+(T t).size) e.cells.length then
      K ((s1.aS τ { tk with l:=tk.l.set j (bP e off v),lin:=tk.lin&&((T t).flat||q) }).put o.dst .undef) else False
     else False
   |none=>False) else False):=by
  intro u K h;unfold aop;rw [ho];simp only [h]<;>rfl
 intro K h
 rw [e s K ha] at h
 cases hg:(T t).good with
 |false=>simp [hg] at h
 |true=>
  simp only [hg,cond_true] at h
  obtain⟨⟨v,q⟩,ws,h1,h2,h3,h4,h5⟩:=Er (s:=s) (τ:=τ) (x:=x) (DR s) (fun y s1=>(match s1.tok τ with
   |some tk=>bif Nat.beq tk.gen g&& !tk.frz&&bF (T t).zero y.1.cells&&uX (T tk.E) (T t) off then
     Idx tk.l k fun j e=>bif Nat.ble (off+(T t).size) e.cells.length then
      K ((s1.aS τ { tk with l:=tk.l.set j (bP e off y.1),lin:=tk.lin&&((T t).flat||y.2) }).put o.dst .undef) else False
     else False
   |none=>False)) h
  dsimp only at h1
  split at h1
  ·rename_i tk htk
   cases hb:(Nat.beq tk.gen g&& !tk.frz&&bF (T t).zero v.cells&&uX (T tk.E) (T t) off) with
   |false=>simp only [hb,cond_false] at h1
   |true=>
    simp only [hb,cond_true] at h1
    obtain⟨j,y,hj,hi⟩:=tC _ h1
    cases hl:Nat.ble (off+(T t).size) y.cells.length with
    |false=>simp [hl] at hj
    |true=>
     simp only [hl,cond_true] at hj
     refine⟨ws++(.tok τ { tk with l:=tk.l.set j (bP y off v),lin:=tk.lin&&((T t).flat||q) }::iH o.dst .undef),?_,?_,fun u hn hR K' hk=>?_⟩
     ·rw [St.aH];rw [aB] at hj;exact hj
     ·intro w hw
      rcases List.mem_append.1 hw with hw|hw
      ·have:=h4 w hw;simp [this]
      ·rcases List.mem_cons.1 hw with rfl|hw
       ·simp [Wr.key]
       ·have:=aR w hw;simp [this]
     ·have e1:u.ev a=s.ev a:=bn fun k hk=>hR k (by simp [hk])
      rw [e u K' (by rw [e1,ha]),hg]
      simp only [cond_true]
      refine h5 u hn (fun k hk=>hR k (by simp only [List.mem_append,List.mem_cons] at hk ⊢;exact .inr (.inr hk))) (fun y s1=>(match s1.tok τ with
   |some tk=>bif Nat.beq tk.gen g&& !tk.frz&&bF (T t).zero y.1.cells&&uX (T tk.E) (T t) off then
     Idx tk.l k fun j e=>bif Nat.ble (off+(T t).size) e.cells.length then
      K' ((s1.aS τ { tk with l:=tk.l.set j (bP e off y.1),lin:=tk.lin&&((T t).flat||y.2) }).put o.dst .undef) else False
     else False
   |none=>False)) ?_
      have e2:(u.app ws).tok τ=some tk:=by
       have:same (.tok τ) (s.app ws) (u.app ws):=fQ hn.symm (hR _ (by simp))
       simp only [same] at this;rw [← this,htk]
      simp only [e2,hb,cond_true]
      refine hi _ ?_
      simp only [hl,cond_true]
      rw [St.aH] at hk
      rw [aB];exact hk
  ·exact h1.elim
end
section
variable {T:Nat→Ty} {C:Nat→List AR→(RV→Prop)→Prop} {L:Nat} {o:Oper} {s:St}
def appW (d:Option Nat):List SV→List Key
 | .own τ _::r=>.tok τ::eRL r
 | .aj::r=>(match d with|some d=>.tok d::eRL r|none=>[])
 |_=>[]
def dF (d:Option Nat):Builtin→List SV→List Key
 | .append,vs=>appW d vs
 |_,_=>[]
theorem Ih {τ:Nat} {y:SV}:∃ws,jE τ s y=s.app ws∧(∀w∈ws,w.nP=true)∧(∀w∈ws,w.key∈eR y)∧∀t:St,(∀k∈eR y,same k s t)→jE τ t y=t.app ws∧oG τ t y=oG τ s y:=by
 cases y with
 |own σ g=>
  cases hs:s.tok σ with
  |none=>
   refine⟨[],by simp [jE,hs,St.app],by simp,by simp,fun t ht=>?_⟩
   have:=ht (.tok σ) (by simp [eR]);simp only [same] at this
   simp [jE,oG, ← this,hs,St.app]
  |some tk=>
   refine⟨[.tok σ { tk with lin:=tk.lin&&Nat.beq σ τ }],by simp [jE,hs,St.app,St.wr],by simp [Wr.nP],by simp [Wr.key,eR],fun t ht=>?_⟩
   have:=ht (.tok σ) (by simp [eR]);simp only [same] at this
   simp [jE,oG, ← this,hs,St.app,St.wr]
 |_=>exact⟨[],rfl,by simp,by simp,fun t _=>⟨rfl,rfl⟩⟩
theorem PW {vs:List SV} {v:SV} (h:v∈vs):∀k∈sK v,k∈sKs vs:=by
 induction vs with
 |nil=>simp at h
 |cons u r ih=>
  intro k hk
  simp only [sKs,List.mem_append]
  rcases List.mem_cons.1 h with rfl|h
  ·exact .inl hk
  ·exact .inr (ih h k hk)
theorem LQ {b:Builtin} {ts:List Nat} {vs:List SV} {d:Option Nat} {K:St→Prop} (h:dM T L s d b ts vs K):
  ∃ws,K (s.app ws)∧(∀w∈ws,w.key∈dK d++dF d b vs)∧∀t:St,t.n=s.n→(∀k∈sKs vs++dF d b vs,same k s t)→∀K':St→Prop,K' (t.app ws)→dM T L t d b ts vs K':=by
 unfold dM at h
 split at h
 ·-- len
  split at h
  ·rename_i t0
   split at h
   ·rename_i x _ _ _ E l hT hc
    refine⟨iH d (.data (.int .i64 l.length)),by rwa [← aB],fun w hw=>List.mem_append_left _ (aR w hw),fun t hn hR K' hk=>?_⟩
    have:t.content x=s.content x:=tu fun k hk=>hR k (List.mem_append_left _ (PW (by simp) k hk))
    rw [hc] at this
    simp only [dM,hT,this]
    rwa [aB]
   ·rename_i b' hT
    refine⟨iH d (.data (.int .i64 b'.size)),by rwa [← aB],fun w hw=>List.mem_append_left _ (aR w hw),fun t hn hR K' hk=>?_⟩
    simp only [dM,hT]
    rwa [aB]
   ·rename_i E l hT hc
    refine⟨iH d (.data (.int .i64 l.length)),by rwa [← aB],fun w hw=>List.mem_append_left _ (aR w hw),fun t hn hR K' hk=>?_⟩
    have:t.content (.old (.sl l))=none:=rfl
    simp only [dM,hT,this]
    rwa [aB]
   ·rename_i E b g n hT hc
    cases hs:(SV.bsl b g n).stands s with
    |false=>simp only [hs,cond_false] at h
    |true=>
     simp only [hs,cond_true] at h
     refine⟨iH d (.data (.int .i64 (n:Nat))),by rwa [← aB],fun w hw=>List.mem_append_left _ (aR w hw),fun t hn hR K' hk=>?_⟩
     have:t.content (.bsl b g n)=none:=rfl
     have e2:(SV.bsl b g n).stands t=(SV.bsl b g n).stands s:=fM fun k hk=>hR k (by simp [sKs,hk])
     simp only [dM,hT,this,e2,hs,cond_true]
     rwa [aB]
   ·exact h.elim
  ·exact h.elim
 ·-- max
  rename_i k x k' y
  cases hb:decide (k=k') with
  |false=>simp only [hb,cond_false] at h
  |true=>
   simp only [hb,cond_true] at h
   refine⟨iH d (.data (.int k (max x y))),by rwa [← aB],fun w hw=>List.mem_append_left _ (aR w hw),fun t hn hR K' hk=>?_⟩
   simp only [dM,hb,cond_true]
   rwa [aB]
 ·-- min
  rename_i k x k' y
  cases hb:decide (k=k') with
  |false=>simp only [hb,cond_false] at h
  |true=>
   simp only [hb,cond_true] at h
   refine⟨iH d (.data (.int k (min x y))),by rwa [← aB],fun w hw=>List.mem_append_left _ (aR w hw),fun t hn hR K' hk=>?_⟩
   simp only [dM,hb,cond_true]
   rwa [aB]
 ·-- append
  rename_i x y
  split at h
  ·rename_i m t1 t2 dd hc
   split at h
   ·rename_i E hT
    cases hb:((T E).good&&Nat.beq t1 t2&&((T E).flat|| !y.Hw)) with
    |false=>simp only [hb,cond_false] at h
    |true=>
     simp only [hb,cond_true] at h
     have hcy:∀t:St,(∀k∈sKs [x,y]++dF (some dd) .append [x,y],same k s t)→t.cont y=some m:=fun t hR=>by
      rw [← hc];exact QN fun k hk=>hR k (List.mem_append_left _ (PW (by simp) k hk))
     split at h
     ·rename_i τ g
      split at h
      ·rename_i tk htk
       cases hg:(Nat.beq tk.gen g&& !tk.frz&&Nat.beq tk.E E) with
       |false=>simp only [hg,cond_false] at h
       |true=>
        simp only [hg,cond_true] at h
        have ht:∀t:St,(∀k∈sKs [SV.own τ g,y]++dF (some dd) .append [SV.own τ g,y],same k s t)→t.tok τ=some tk:=fun t hR=>by
         have:=hR (.tok τ) (by simp [dF,appW]);simp only [same] at this;rw [← this,htk]
        cases hfz:(T E).flat with
        |true=>
         have hb:=hb
         rw [hfz] at hb
         have hkk:=h.k
         simp only [hfz,cond_true] at hkk
         refine⟨[.tok τ ⟨g+1,false,E,tk.l++m,true⟩,.slot dd (.own τ (g+1))],hkk,by simp [Wr.key,dK,dF,appW],fun t hn hR K' hk=>?_⟩
         simp only [dM,hcy t hR,hT,hb,ht t hR,hg,cond_true,hfz]
         exact⟨h.h,hk⟩
        |false=>
         have hb:=hb
         rw [hfz] at hb
         have hkk:=h.k
         simp only [hfz,cond_false] at hkk
         obtain⟨ws,u1,u2,u3,u4⟩:=Ih (s:=s) (τ:=τ) (y:=y)
         rw [u1] at hkk
         refine⟨ws++[.tok τ ⟨g+1,false,E,tk.l++m,tk.lin&&oG τ s y⟩,.slot dd (.own τ (g+1))],by rw [St.aH];exact hkk,?_,fun t hn hR K' hk=>?_⟩
         ·intro w hw
          rcases List.mem_append.1 hw with hw|hw
          ·have:=u3 w hw;simp [dF,appW,eRL,this]
          ·simp at hw;rcases hw with rfl|rfl<;>simp [Wr.key,dK,dF,appW]
         ·obtain⟨e1,e2⟩:=u4 t fun k hk=>hR k (by simp [dF,appW,eRL,hk])
          simp only [dM,hcy t hR,hT,hb,ht t hR,hg,cond_true,hfz,cond_false,e1,e2]
          rw [St.aH] at hk
          exact⟨h.h,hk⟩
      ·exact h.elim
     ·cases hfz:(T E).flat with
      |true=>
       have hb:=hb
       rw [hfz] at hb
       obtain⟨v,ws,h1,h2,h3,h4⟩:=pW (s:=s) (τ:=dd) (E:=E) (l:=m) (q:=true)
       have hk:=h.k
       simp only [hfz,cond_true,h1] at hk
       refine⟨ws++[.slot dd v],by rw [St.aH];exact hk,?_,fun t hn hR K' hk=>?_⟩
       ·intro w hw
        rcases List.mem_append.1 hw with hw|hw
        ·have:=h3 w hw;simp at this;simp [this,dF,appW]
        ·simp at hw;subst hw;simp [Wr.key,dK]
       ·simp only [dM,hcy t hR,hT,hb,cond_true,hfz]
        refine⟨h.h,?_⟩
        rw [h4 t (hR _ (by simp [dF,appW]))]
        rw [St.aH] at hk;exact hk
      |false=>
       have hb:=hb
       rw [hfz] at hb
       obtain⟨us,u1,u2,u3,u4⟩:=Ih (s:=s) (τ:=dd) (y:=y)
       obtain⟨v,ws,h1,h2,h3,h4⟩:=pW (s:=s.app us) (τ:=dd) (E:=E) (l:=m) (q:=oG dd s y)
       have hk:=h.k
       simp only [hfz,cond_false,u1,h1] at hk
       refine⟨us++(ws++[.slot dd v]),by rw [St.aH,St.aH];exact hk,?_,fun t hn hR K' hk=>?_⟩
       ·intro w hw
        rcases List.mem_append.1 hw with hw|hw
        ·have:=u3 w hw;simp [dF,appW,eRL,this]
        ·rcases List.mem_append.1 hw with hw|hw
         ·have:=h3 w hw;simp at this;simp [this,dF,appW]
         ·simp at hw;subst hw;simp [Wr.key,dK]
       ·obtain⟨e1,e2⟩:=u4 t fun k hk=>hR k (by simp [dF,appW,eRL,hk])
        simp only [dM,hcy t hR,hT,hb,cond_true,hfz,cond_false,e1,e2]
        refine⟨h.h,?_⟩
        rw [h4 (t.app us) (fQ hn.symm (hR _ (by simp [dF,appW])))]
        rw [St.aH,St.aH] at hk;exact hk
     ·exact h.elim
   ·exact h.elim
  ·exact h.elim
 ·exact h.elim
theorem QT {c:Call} (ho:o.op= .call c) {b:Builtin} (hb:c.callee= .builtin b):
  Writes T C L o s (oKs c.args.toList++(sKs (c.args.toList.map s.ev)++dF o.dst b (c.args.toList.map s.ev))) (dK o.dst++dF o.dst b (c.args.toList.map s.ev)):=by
 have e:∀(u:St) K,aop T C L o u K=dM T L u o.dst b c.argTypes.toList (c.args.toList.map u.ev) K:=by
  intro u K;unfold aop;rw [ho];simp only [hb]
 intro K h
 rw [e] at h
 obtain⟨ws,h1,h2,h3⟩:=LQ h
 refine⟨ws,h1,h2,fun t hn hR K' hk=>?_⟩
 rw [e,nQ fun k hk=>hR k (List.mem_append_left _ hk)]
 exact h3 t hn (fun k hk=>hR k (List.mem_append_right _ hk)) K' hk
end
section
variable {T:Nat→Ty} {C:Nat→List AR→(RV→Prop)→Prop} {L:Nat} {o:Oper} {s:St}
def eRB (m:Nat→Option (Nat×List SV)):SV→List Key
 | .box d _ _=>.mem d::(match m d with|some (_,cs)=>eRL cs|none=>[])
 |_=>[]
def eWB (m:Nat→Option (Nat×List SV)) (fz:Nat→Bool):SV→List Key
 | .box d _ _=>(match m d with|some (_,cs)=>eWL fz cs|none=>[])
 |_=>[]
def Wx (m:Nat→Option (Nat×List SV)):List SV→List Key
 |[]=>[]
 |v::r=>eRB m v++Wx m r
def Wy (m:Nat→Option (Nat×List SV)) (fz:Nat→Bool):List SV→List Key
 |[]=>[]
 |v::r=>eWB m fz v++Wy m fz r
def eRA (m:Nat→Option (Nat×List SV)):SV→List Key
 | .fn _ caps=>Wx m caps
 | .box d g off=>eRB m (.box d g off)
 |v=>eRV v
def eWA (m:Nat→Option (Nat×List SV)) (fz:Nat→Bool):SV→List Key
 | .fn _ caps=>Wy m fz caps
 | .box d g off=>eWB m fz (.box d g off)
 |v=>eWV fz v
def Sj (m:Nat→Option (Nat×List SV)):List SV→List Key
 |[]=>[]
 |v::r=>eRA m v++Sj m r
def Sk (m:Nat→Option (Nat×List SV)) (fz:Nat→Bool):List SV→List Key
 |[]=>[]
 |v::r=>eWA m fz v++Sk m fz r
theorem Jz {fz:Nat→Bool} {v:SV} {m:Nat→Option (Nat×List SV)} {s:St} (hm:s.mem=m):dJ fz (fun s K=>iO s v K) s (eRB m v) (eWB m fz v):=by
 subst hm
 cases v with
 |ref a=>intro hz K h;exact⟨a,[],h,hz,by simp,by simp,fun _ _ _ _ hk=>hk⟩
 |box d g off=>
  intro hz K h
  cases off with
  |succ n=>exact h.elim
  |zero=>
  simp only [iO] at h
  simp only [eRB,eWB]
  cases hd:s.mem d with
  |none=>simp [hd] at h
  |some p=>
   obtain⟨g',cells⟩:=p
   simp only [hd] at h
   cases hg:Nat.beq g' g with
   |false=>simp [hg] at h
   |true=>
    simp only [hg,cond_true] at h
    have hF:∀t:St,(∀k∈[Key.mem d],same k s t)→∀K',(match cells with|[c]=>erase t c K'|cs=>lH t cs fun as s1=>K' (.agg as) s1)→iO t (.box d g 0) K':=by
     intro t ht K' hk
     have:=ht (.mem d) (by simp);simp only [same] at this
     simp only [iO, ← this,hd,hg,cond_true]
     exact hk
    match cells,h with
    |[c],h=>
     obtain⟨x,ws,h1,h2,h3,h4,h5⟩:=wC (fz:=fz) (v:=c) (s:=s) hz K h
     exact⟨x,ws,h1,h2,h3,fun w hw=>by simp only [eWL,List.append_nil];exact h4 w hw,fun t hn hR K' hk=>hF t (fun k hk=>hR k (by simp at hk;simp [hk])) K' (h5 t hn (fun k hk=>hR k (by simp only [eRL,List.append_nil];exact List.mem_cons_of_mem _ hk)) K' hk)⟩
    |[],h=>
     obtain⟨x,ws,h1,h2,h3,h4,h5⟩:=(tq (fz:=fz) (l:=[]) (s:=s)).map AV.agg hz K h
     exact⟨x,ws,h1,h2,h3,h4,fun t hn hR K' hk=>hF t (fun k hk=>hR k (by simp at hk;simp [hk])) K' (h5 t hn (fun k hk=>hR k (List.mem_cons_of_mem _ hk)) K' hk)⟩
    |c::c'::r,h=>
     obtain⟨x,ws,h1,h2,h3,h4,h5⟩:=(tq (fz:=fz) (l:=c::c'::r) (s:=s)).map AV.agg hz K h
     exact⟨x,ws,h1,h2,h3,h4,fun t hn hR K' hk=>hF t (fun k hk=>hR k (by simp at hk;simp [hk])) K' (h5 t hn (fun k hk=>hR k (List.mem_cons_of_mem _ hk)) K' hk)⟩
 |_=>exact dJ.false fun K h=>h
theorem vF {fz:Nat→Bool} {m:Nat→Option (Nat×List SV)}:∀{l:List SV} {s:St},s.mem=m→dJ fz (fun s K=>iG s l K) s (Wx m l) (Wy m fz l)
 |[],_,_=>dJ.pure
 |v::r,s,hm=>(Jz hm).bind fun x ws hws=>(vF (l:=r) (by rw [Ju hws,hm])).map fun as=>x::as
theorem xS {fz:Nat→Bool}:∀{l:List SV} {s:St},dJ fz (fun s K=>pO s l K) s (eRL l) (eWL fz l)
 |[],_=>dJ.pure
 |v::r,s=>by
  have go:∀s:St,dJ fz (fun s K=>erase s v fun a s1=>pO s1 r fun as s2=>K (.data a::as) s2) s (eRL (v::r)) (eWL fz (v::r)):=fun s=>(wC (v:=v)).bind fun x _ _=>(xS (l:=r)).map fun as=>.data x::as
  cases v with
  |aj=>exact (xS (l:=r) (s:=s)).map fun as=>.aj::as
  |_=>exact go s
theorem Gt {fz:Nat→Bool} {b:Bool} {m:Nat→Option (Nat×List SV)} {v:SV} {s:St} (hm:s.mem=m):dJ fz (fun s K=>dW b s v K) s (eRA m v) (eWA m fz v):=by
 cases v with
 |fn f caps=>exact (vF (l:=caps) hm).map (AR.fn f)
 |fnr f caps=>exact dJ.pure
 |old a=>exact dJ.pure
 |gW l=>exact (xR (v:=.gW l)).map AR.d
 |own τ g=>exact Jv
 |data a=>exact dJ.pure
 |aj=>exact dJ.pure
 |argv i j a=>exact dJ.pure
 |fr l=>exact dJ.pure
 |box d g off=>
  subst hm
  intro hz K h
  cases off with
  |succ n=>exact h.elim
  |zero=>
  simp only [dW] at h
  simp only [eRA,eWA,eRB,eWB]
  cases hd:s.mem d with
  |none=>simp [hd] at h
  |some p=>
   obtain⟨g',cells⟩:=p
   simp only [hd] at h
   cases hg:Nat.beq g' g with
   |false=>simp [hg] at h
   |true=>
    simp only [hg,cond_true] at h
    obtain⟨x,ws,h1,h2,h3,h4,h5⟩:=(xS (fz:=fz) (l:=cells) (s:=s)).map AR.bx hz K h
    refine⟨x,ws,h1,h2,h3,h4,fun t hn hR K' hk=>?_⟩
    have:=hR (.mem d) (by simp);simp only [same] at this
    simp only [dW, ← this,hd,hg,cond_true]
    exact h5 t hn (fun k hk=>hR k (List.mem_cons_of_mem _ hk)) K' hk
 |undef|gone|iW|bsl|ref|bQ|tup=>exact dJ.false fun K h=>h
theorem vG {fz:Nat→Bool} {b:Bool} {m:Nat→Option (Nat×List SV)}:∀{l:List SV} {s:St},s.mem=m→dJ fz (fun s K=>fP b s l K) s (Sj m l) (Sk m fz l)
 |[],_,_=>dJ.pure
 |v::r,s,hm=>(Gt hm).bind fun x ws hws=>(vG (l:=r) (by rw [Ju hws,hm])).map fun as=>x::as
theorem Ou {f:FuncId} {first captured:Array Operand} (ho:o.op= .makeFunc (.func f) first captured):Writes T C L o s (oKs captured.toList) (dK o.dst):=by
 have e:∀(u:St) K,aop T C L o u K=(bif first.isEmpty then K (u.put o.dst (.fn f (captured.toList.map u.ev))) else False):=by
  intro u K;unfold aop;rw [ho]<;>rfl
 intro K h
 rw [e] at h
 cases hf:first.isEmpty with
 |false=>simp [hf] at h
 |true=>
  simp only [hf,cond_true] at h
  refine⟨iH o.dst (.fn f (captured.toList.map s.ev)),by rwa [← aB],aR,fun u hn hR K' hk=>?_⟩
  rw [e,hf,nQ hR]
  simp only [cond_true]
  rwa [aB]
theorem UN {t:Nat} {x i:Operand} (ho:o.op= .index t x i):Writes T C L o s (oK x++oK i) (dK o.dst):=by
 have e:∀(u:St) K,aop T C L o u K=(match (T t).kind,u.ev x,u.ev i with
  | .str,.data (.str b),.data (.int _ n)=>VC (0≤n∧n < b.size) (K (u.put o.dst (.data (.int .u8 ((b.data.toList.getD n.toNat 0).toNat)))))
  |_,_,_=>False):=by
  intro u K;unfold aop;rw [ho]<;>rfl
 intro K h
 rw [e] at h
 split at h
 ·rename_i b k n hT hx hi
  refine⟨iH o.dst (.data (.int .u8 ((b.data.toList.getD n.toNat 0).toNat))),by rw [← aB];exact h.k,aR,fun u hn hR K' hk=>?_⟩
  rw [e,hT,bn fun k hk=>hR k (List.mem_append_left _ hk),bn (x:=i) fun k hk=>hR k (List.mem_append_right _ hk),hx,hi]
  exact⟨h.h,by rwa [aB]⟩
 ·exact h.elim
theorem Xw {E:Nat} {x:Operand} (ho:o.op= .box E x) {d:Nat} (hd:o.dst=some d):Writes T C L o s (.mem d::(oK x++sK (s.ev x))) [.mem d,.slot d]:=by
 have e:∀(u:St) K,aop T C L o u K=(match (some d:Option Nat),(u.ev x).cells with
  |some d,some cells=>bif (T E).good&&Nat.beq cells.length (T E).size&&(u.ev x).stands u&&Nat.blt d 1000000 then (let r:=bB u d cells;K (r.2.set d r.1)) else False
  |_,_=>False):=by
  intro u K;unfold aop;rw [ho,hd]<;>rfl
 intro K h
 rw [e] at h
 cases hc:(s.ev x).cells with
 |none=>simp [hc] at h
 |some cells=>
  simp only [hc] at h
  cases hb:((T E).good&&Nat.beq cells.length (T E).size&&(s.ev x).stands s&&Nat.blt d 1000000) with
  |false=>simp only [hb,cond_false] at h
  |true=>
   simp only [hb,cond_true,bB] at h
   refine⟨[.mem d (fJ (s.mem d)) cells,.slot d (.box d (fJ (s.mem d)) 0)],h,by simp [Wr.key],fun t hn hR K' hk=>?_⟩
   have hm:=hR (.mem d) (by simp);simp only [same] at hm
   rw [e,bn fun k hk=>hR k (List.mem_cons_of_mem _ (List.mem_append_left _ hk))]
   simp only [hc]
   rw [fM fun k hk=>hR k (List.mem_cons_of_mem _ (List.mem_append_right _ hk)),hb]
   simp only [cond_true,bB, ← hm]
   exact hk
def bK:Option Operand→List Key
 |some x=>oK x
 |none=>[]
theorem Es {u:St} {n:Int} {x:Option Operand} (h:∀k∈bK x,same k s u):bound u n x=bound s n x:=by
 cases x with
 |none=>rfl
 |some x=>simp only [bound];rw [bn h]
theorem Gu {u:St} {v:SV} (h:∀k∈sK v,same k s u):sliceLen u v=sliceLen s v:=by
 have hc:=tu h
 cases v with
 |data a=>cases a<;>simp only [sliceLen]<;>rw [hc]
 |_=>simp only [sliceLen];rw [hc]
theorem UO {t:Nat} {x:Operand} {lo hi:Option Operand} (ho:o.op= .slice t x lo hi none):
  Writes T C L o s (oK x++(bK lo++(bK hi++(sK (s.ev x)++eRV (s.ev x))))) (dK o.dst++eWV (LM s) (s.ev x)):=by
 have e:∀(u:St) K,aop T C L o u K=(match (T t).kind,sliceLen u (u.ev x) with
  | .slice E,some len=>(match bound u 0 lo,bound u len hi with
   |some a,some b=>VC (0≤a∧a≤b∧b≤len) (bif (T E).good then kJ u (u.ev x) fun v s1=>match v with
    | .sl l=>VC ((l.length:Int)=len∧(a=0∨∀x,l.head? =some x→x.cells.length=(T E).size)) (K (s1.put o.dst (.data (.sl (iM l a b)))))
    |_=>False else False)
   |_,_=>False)
  | .str,some len=>(match bound u 0 lo,bound u len hi,u.ev x with
   |some a,some b,.data (.str v)=>VC (0≤a∧a≤b∧b≤len) (K (u.put o.dst (.data (.str (v.extract a.toNat b.toNat)))))
   |_,_,_=>False)
  |_,_=>False):=by
  intro u K;unfold aop;rw [ho]<;>rfl
 intro K h
 rw [e] at h
 have same':∀u:St,(∀k∈oK x++(bK lo++(bK hi++(sK (s.ev x)++eRV (s.ev x)))),same k s u)→u.ev x=s.ev x∧sliceLen u (s.ev x)=sliceLen s (s.ev x)∧(∀n,bound u n lo=bound s n lo)∧(∀n,bound u n hi=bound s n hi)∧∀k∈eRV (s.ev x),same k s u:=by
  intro u hR
  simp only [List.mem_append] at hR
  exact⟨bn fun k hk=>hR k (.inl hk),Gu fun k hk=>hR k (.inr (.inr (.inr (.inl hk)))),fun n=>Es fun k hk=>hR k (.inr (.inl hk)),fun n=>Es fun k hk=>hR k (.inr (.inr (.inl hk))),fun k hk=>hR k (.inr (.inr (.inr (.inr hk))))⟩
 cases hT:(T t).kind with
 |slice E=>
  simp only [hT] at h
  cases hl:sliceLen s (s.ev x) with
  |none=>simp [hl] at h
  |some len=>
   simp only [hl] at h
   cases hlo:bound s 0 lo with
   |none=>simp [hlo] at h
   |some a=>
    cases hhi:bound s len hi with
    |none=>simp [hlo,hhi] at h
    |some b=>
     simp only [hlo,hhi] at h
     obtain⟨hv,h⟩:=h
     cases hg:(T E).good with
     |false=>simp [hg] at h
     |true=>
      simp only [hg,cond_true] at h
      obtain⟨v,ws,h1,h2,h3,h4,h5⟩:=xR (fz:=LM s) (v:=s.ev x) (s:=s) (DR s) _ h
      cases v with
      |sl l=>
       obtain⟨hv2,h1⟩:=h1
       refine⟨ws++iH o.dst (.data (.sl (iM l a b))),by rw [St.aH, ← aB];exact h1,?_,fun u hn hR K' hk=>?_⟩
       ·intro w hw
        rcases List.mem_append.1 hw with hw|hw
        ·exact List.mem_append_right _ (h4 w hw)
        ·exact List.mem_append_left _ (aR w hw)
       ·obtain⟨e1,e2,e3,e4,e5⟩:=same' u hR
        rw [e,hT,e1,e2,hl]
        simp only [e3,e4,hlo,hhi,hg,cond_true]
        refine⟨hv,h5 u hn e5 _ ⟨hv2,?_⟩⟩
        rw [St.aH, ← aB] at hk;exact hk
      |_=>exact h1.elim
 |str=>
  simp only [hT] at h
  cases hl:sliceLen s (s.ev x) with
  |none=>simp [hl] at h
  |some len=>
   simp only [hl] at h
   cases hlo:bound s 0 lo with
   |none=>simp [hlo] at h
   |some a=>
    cases hhi:bound s len hi with
    |none=>simp [hlo,hhi] at h
    |some b=>
     simp only [hlo,hhi] at h
     split at h
     ·rename_i a' b' v ha hb hx
      cases ha;cases hb
      refine⟨iH o.dst (.data (.str (v.extract a.toNat b.toNat))),by rw [← aB];exact h.k,fun w hw=>List.mem_append_left _ (aR w hw),fun u hn hR K' hk=>?_⟩
      obtain⟨e1,e2,e3,e4,e5⟩:=same' u hR
      rw [e,hT,e1,e2,hl]
      simp only [e3,e4,hlo,hhi,hx]
      exact⟨h.h,by rw [aB];exact hk⟩
     ·exact h.elim
 |_=>simp [hT] at h
end
section
variable {T:Nat→Ty} {C:Nat→List AR→(RV→Prop)→Prop} {L:Nat} {o:Oper} {s:St}
inductive Et (C:Nat→List AR→(RV→Prop)→Prop) (f:Nat) (as:List AR) (K:RV→Prop):Prop
 |mk (r:RV) (h:∀K':RV→Prop,K' r→C f as K') (k:K r)
def tF (A:List SV) (d:Option Nat) (r:RV):List Key:=match r with
 | .eff i r' cs=>(match A[i]? with
  |some (.box b _ _)=>.mem b::(r'.toks (dn d)++RV.yY (1000*(b+1)) cs)
  |_=>[])
 | .ptr _=>(match d with|some d=>[.mem d]|none=>[])
 |r=>(match d with|some d=>r.toks (1000*(d+1))|none=>[])
theorem LU {A:List SV} {d:Option Nat} {r:RV} (h:r.uZ=false):tF A d r=(match d with|some d=>r.toks (1000*(d+1))|none=>[]):=by
 cases r<;>first|rfl|cases h
def tH (T:Nat→Ty) (C:Nat→List AR→(RV→Prop)→Prop) (L:Nat) (o:Oper) (s:St) (K:RW→St→Prop):Prop:=
 match o.op with
 | .move x| .assign x=>aop T C L o s (K (oK x,dK o.dst))
 | .pick (.tmp c) a b=>bif Nat.blt c s.n then aop T C L o s (K (.slot c::(oK a++oK b),dK o.dst)) else False
 | .alloc _=>match o.dst with
  |some d=>aop T C L o s (K ([.mem d],[.mem d,.slot d]))
  |none=>False
 | .load _ a=>aop T C L o s (K (oK a++sK (s.ev a),dK o.dst))
 | .binOp _ _ x y _=>match s.ev y with
  | .data _=>aop T C L o s (K (oK x++oK y,dK o.dst))
  |_=>False
 | .unOp _ _ x=>aop T C L o s (K (oK x,dK o.dst))
 | .convert _ _ x=>aop T C L o s (K (oK x,dK o.dst))
 | .extract x _=>aop T C L o s (K (oK x,dK o.dst))
 | .field _ x _=>aop T C L o s (K (oK x,dK o.dst))
 | .nilCheck x=>aop T C L o s (K (oK x++sK (s.ev x),dK o.dst))
 | .fieldAddr _ x _=>aop T C L o s (K (oK x++sK (s.ev x),dK o.dst))
 | .indexAddr _ x i=>aop T C L o s (K (oK x++(oK i++sK (s.ev x)),dK o.dst))
 | .build _ parts=>aop T C L o s (K (pX s.ev parts.toList,dK o.dst))
 | .buildSlice _ _ parts=>match o.dst with
  |some d=>aop T C L o s (K (.mem d::.tok d::(elR s.ev parts.toList++pX s.ev parts.toList),.mem d::.tok d::.slot d::elW s.ev parts.toList))
  |none=>False
 | .store _ a x=>match s.ev a with
  | .box d _ _=>aop T C L o s (K (oK a++(oK x++(.mem d::sK (s.ev x))),.mem d::dK o.dst))
  | .iW τ _ _ _=>aop T C L o s (K (oK a++(.tok τ::(oK x++eRV (s.ev x))),.tok τ::(dK o.dst++eRV (s.ev x))))
  |_=>False
 | .call c=>match c.callee with
  | .builtin b=>aop T C L o s (K (oKs c.args.toList++(sKs (c.args.toList.map s.ev)++dF o.dst b (c.args.toList.map s.ev)),dK o.dst++dF o.dst b (c.args.toList.map s.ev)))
  | .value (.func f)=>fP (wX (c.args.toList.map s.ev)) s (c.args.toList.map s.ev) fun as s1=>Et C f (vk as as) fun r=>
     pQ (fun _ _ K=>K r) (c.args.toList.map s.ev) s s1 o.dst f as as (K (oKs c.args.toList++(Sj s.mem (c.args.toList.map s.ev)++tF (c.args.toList.map s.ev) o.dst r),dK o.dst++(Sk s.mem (LM s) (c.args.toList.map s.ev)++tF (c.args.toList.map s.ev) o.dst r)))
  |_=>False
 | .makeFunc (.func _) _ captured=>aop T C L o s (K (oKs captured.toList,dK o.dst))
 | .index _ x i=>aop T C L o s (K (oK x++oK i,dK o.dst))
 | .box _ x=>match o.dst with
  |some d=>aop T C L o s (K (.mem d::(oK x++sK (s.ev x)),[.mem d,.slot d]))
  |none=>False
 | .slice _ x lo hi none=>aop T C L o s (K (oK x++(bK lo++(bK hi++(sK (s.ev x)++eRV (s.ev x)))),dK o.dst++eWV (LM s) (s.ev x)))
 |_=>False
def DOk (T:Nat→Ty) (C:Nat→List AR→(RV→Prop)→Prop) (L:Nat) (o:Oper) (s:St) (K:RW→St→Prop):Prop:=
 ∃p ws,K p (s.app ws)∧(∀w∈ws,w.key∈p.2)∧∀t:St,t.n=s.n→(∀k∈p.1,same k s t)→∀K':St→Prop,K' (t.app ws)→aop T C L o t K'
theorem DOk.of {K:RW→St→Prop} {R W:List Key} (h:Writes T C L o s R W) (hk:aop T C L o s (K (R,W))):DOk T C L o s K:=by
 obtain⟨ws,h1,h2,h3⟩:=h _ hk
 exact⟨(R,W),ws,h1,h2,h3⟩
theorem PX {K:RW→St→Prop} (h:tH T C L o s K):DOk T C L o s K:=by
 unfold tH at h
 split at h
 ·rename_i x ho;exact .of (Si (.inl ho)) h
 ·rename_i x ho;exact .of (Si (.inr ho)) h
 ·rename_i c a b ho
  cases hc:Nat.blt c s.n with
  |false=>simp [hc] at h
  |true=>simp only [hc,cond_true] at h;exact .of (Wt ho hc) h
 ·rename_i E ho
  split at h
  ·rename_i d hd;exact .of (UJ ho hd) h
  ·exact h.elim
 ·rename_i t a ho;exact .of (Wu ho) h
 ·rename_i op t x y z ho
  split at h
  ·rename_i q hy;exact .of (UK ho hy) h
  ·exact h.elim
 ·rename_i op t x ho;exact .of (Wv ho) h
 ·rename_i src t x ho;exact .of (QO ho) h
 ·rename_i x i ho;exact .of (QS ho) h
 ·rename_i t x f ho;exact .of (UL ho) h
 ·rename_i x ho;exact .of (Oq ho) h
 ·rename_i t x f ho;exact .of (LJ ho) h
 ·rename_i t x i ho;exact .of (LK ho) h
 ·rename_i t parts ho;exact .of (UM ho) h
 ·rename_i t n parts ho
  split at h
  ·rename_i d hd;exact .of (Jy ho hd) h
  ·exact h.elim
 ·rename_i t a x ho
  split at h
  ·rename_i d g off ha;exact .of (Ot ho ha) h
  ·rename_i τ g k off ha;exact .of (LP ho ha) h
  ·exact h.elim
 ·rename_i c ho
  split at h
  ·rename_i b hb;exact .of (QT ho hb) h
  ·rename_i f hf
   ·have e:∀(u:St) K,aop T C L o u K=fP (wX (c.args.toList.map u.ev)) u (c.args.toList.map u.ev) fun as s1=>pQ C (c.args.toList.map u.ev) u s1 o.dst f as as K:=by
     intro u K;unfold aop;rw [ho];simp only [hf]
    obtain⟨as,ws,h1,h2,h3,h4,h5⟩:=vG (s:=s) rfl (DR s) _ h
    obtain⟨r,hr,hk⟩:=h1
    simp only [pQ] at hk
    cases hq0:Ea as as with
    |false=>simp only [hq0,cond_false] at hk
    |true=>
    simp only [hq0,cond_true] at hk
    cases he:r.uZ with
    |true=>
     cases r with
     |eff i r' cs=>
      simp only [uY,tF] at hk
      split at hk
      ·rename_i b g hA
       rw [hA] at hk
       cases hb:((SV.box b g 0).stands (s.app ws)&& !lK as) with
       |false=>simp only [hb,cond_false] at hk
       |true=>
        simp only [hb,cond_true] at hk
        have eU:∀u:St,u.bU b g (List.replicate cs.length .undef)=u.app [.mem b g (List.replicate cs.length .undef)]:=fun _=>rfl
        rw [eU] at hk
        obtain⟨v,us,g1,g2,g3,g4⟩:=Jw (c.args.toList.map s.ev) r' ((s.app ws).app [.mem b g (List.replicate cs.length .undef)]) (dn o.dst)
        simp only [g1] at hk
        obtain⟨vs,us2,f1,f2,f3,f4⟩:=yZ (c.args.toList.map s.ev) cs (((s.app ws).app [.mem b g (List.replicate cs.length .undef)]).app us) (1000*(b+1))
        simp only [f1] at hk
        refine⟨_,ws++([.mem b g (List.replicate cs.length .undef)]++(us++(us2++(.mem b g vs::iH o.dst v)))),by rw [St.aH,St.aH,St.aH,St.aH];simp only [St.app] at hk ⊢;rw [← aB];exact hk,?_,fun t hn hR K' hk'=>?_⟩
        ·intro w hw
         simp only [List.mem_append]
         rcases List.mem_append.1 hw with hw|hw
         ·exact .inr (.inl (h4 w hw))
         rcases List.mem_append.1 hw with hw|hw
         ·simp only [List.mem_singleton] at hw;subst hw;exact .inr (.inr (List.mem_cons_self ..))
         rcases List.mem_append.1 hw with hw|hw
         ·exact .inr (.inr (List.mem_cons_of_mem _ (List.mem_append_left _ (g3 w hw))))
         rcases List.mem_append.1 hw with hw|hw
         ·exact .inr (.inr (List.mem_cons_of_mem _ (List.mem_append_right _ (f3 w hw))))
         rcases List.mem_cons.1 hw with rfl|hw
         ·exact .inr (.inr (List.mem_cons_self ..))
         ·exact .inl (aR w hw)
        ·rw [e,nQ fun k hk=>hR k (List.mem_append_left _ hk)]
         have hR2:∀k∈.mem b::(r'.toks (dn o.dst)++RV.yY (1000*(b+1)) cs),same k s t:=fun k hk=>hR k (List.mem_append_right _ (List.mem_append_right _ hk))
         refine h5 t hn (fun k hk=>hR k (by simp only [List.mem_append] at hk ⊢;exact .inr (.inl hk))) _ ?_
         simp only [pQ,hq0,cond_true]
         refine hr _ ?_
         simp only [uY,hA]
         have hst:(SV.box b g 0).stands (t.app ws)=(SV.box b g 0).stands (s.app ws):=fM fun k hk=>fQ hn.symm (hR2 k (by simp [sK] at hk;simp [hk]))
         rw [hst,hb]
         simp only [cond_true]
         rw [eU]
         rw [g4 ((t.app ws).app [.mem b g (List.replicate cs.length .undef)]) (by simp [St.rZ,hn]) fun k hk=>fQ (by simp [St.rZ,hn]) (fQ hn.symm (hR2 k (List.mem_cons_of_mem _ (List.mem_append_left _ hk))))]
         simp only
         rw [f4 (((t.app ws).app [.mem b g (List.replicate cs.length .undef)]).app us) (by simp [St.rZ,hn]) fun k hk=>fQ (by simp [St.rZ,hn]) (fQ (by simp [St.rZ,hn]) (fQ hn.symm (hR2 k (List.mem_cons_of_mem _ (List.mem_append_right _ hk)))))]
         rw [St.aH,St.aH,St.aH,St.aH] at hk';simp only [St.app] at hk' ⊢;rw [← aB] at hk';exact hk'
      ·exact hk.elim
     |ptr cs=>
      simp only [uY,tF] at hk
      cases hd:o.dst with
      |none=>simp only [hd] at hk
      |some d=>
       simp only [hd] at hk
       cases hb:(lK as&&Nat.blt d 1000000) with
       |false=>simp only [hb,cond_false] at hk
       |true=>
        simp only [hb,cond_true] at hk
        have eU:∀u:St,(bB u d (cs.map .data)).2.set d (bB u d (cs.map .data)).1=u.app [.mem d (fJ (u.mem d)) (cs.map .data),.slot d (.box d (fJ (u.mem d)) 0)]:=fun u=>by
         simp only [bB,St.app,St.wr]
        rw [eU] at hk
        refine⟨_,ws++[.mem d (fJ ((s.app ws).mem d)) (cs.map .data),.slot d (.box d (fJ ((s.app ws).mem d)) 0)],by rw [St.aH];exact hk,?_,fun t hn hR K' hk'=>?_⟩
        ·intro w hw
         simp only [List.mem_append]
         rcases List.mem_append.1 hw with hw|hw
         ·exact .inr (.inl (h4 w hw))
         ·simp only [List.mem_cons,List.not_mem_nil,or_false] at hw
          rcases hw with rfl|rfl
          ·exact .inr (.inr (by simp [Wr.key]))
          ·exact .inl (by simp [Wr.key,dK])
        ·rw [e,nQ fun k hk=>hR k (List.mem_append_left _ hk)]
         refine h5 t hn (fun k hk=>hR k (by simp only [List.mem_append] at hk ⊢;exact .inr (.inl hk))) _ ?_
         simp only [pQ,hq0,cond_true]
         refine hr _ ?_
         simp only [uY,hd,hb,cond_true]
         rw [eU]
         have hst:(t.app ws).mem d=(s.app ws).mem d:=(fQ (k:=.mem d) hn.symm (hR _ (List.mem_append_right _ (List.mem_append_right _ (by simp))))).symm
         rw [hst]
         rw [St.aH] at hk';exact hk'
     |_=>cases he
    |false=>
    rw [mP he,LU he] at hk
    cases hnb:lK as with
    |false=>simp only [hnb,cond_false] at hk
    |true=>
    simp only [hnb,cond_true] at hk
    cases hd:o.dst with
    |none=>
     simp only [hd,List.append_nil,dK,List.nil_append] at hk
     refine⟨_,ws,hk,h4,fun t hn hR K' hk'=>?_⟩
     rw [e,nQ fun k hk=>hR k (List.mem_append_left _ hk)]
     refine h5 t hn (fun k hk=>hR k (List.mem_append_right _ hk)) _ ?_
     simp only [pQ,hd,hq0,cond_true]
     refine hr _ ?_
     rw [mP he,hnb]
     exact hk'
    |some d=>
     simp only [hd] at hk
     cases hq:r.quiet with
     |some v=>
      simp only [hq] at hk
      refine⟨_,[.slot d v],hk,by simp [Wr.key,dK],fun t hn hR K' hk'=>?_⟩
      rw [e,nQ fun k hk=>hR k (List.mem_append_left _ hk)]
      refine h5 t hn (fun k hk=>hR k (by simp only [List.mem_append] at hk ⊢;exact .inr (.inl hk))) _ ?_
      simp only [pQ,hd,hq0,cond_true]
      refine hr _ ?_
      rw [mP he,hnb]
      simp only [hq,cond_true]
      exact hk'
     |none=>
     simp only [hq] at hk
     obtain⟨v,us,g1,g2,g3,g4⟩:=Jw (c.args.toList.map s.ev) r (s.app ws) (1000*(d+1))
     simp only [g1] at hk
     refine⟨(oKs c.args.toList++(Sj s.mem (c.args.toList.map s.ev)++r.toks (1000*(d+1))),dK (some d)++(Sk s.mem (LM s) (c.args.toList.map s.ev)++r.toks (1000*(d+1)))),
      ws++(us++[.slot d v]),?_,?_,fun t hn hR K' hk'=>?_⟩
     ·rw [St.aH,St.aH];exact hk
     ·intro w hw
      simp only [List.mem_append]
      rcases List.mem_append.1 hw with hw|hw
      ·exact .inr (.inl (h4 w hw))
      ·rcases List.mem_append.1 hw with hw|hw
       ·exact .inr (.inr (g3 w hw))
       ·simp at hw;subst hw;simp [Wr.key,dK]
     ·rw [e,nQ fun k hk=>hR k (List.mem_append_left _ hk)]
      refine h5 t hn (fun k hk=>hR k (by simp only [List.mem_append] at hk ⊢;exact .inr (.inl hk))) _ ?_
      simp only [pQ,hd,hq0,cond_true]
      refine hr _ ?_
      rw [mP he,hnb]
      simp only [hq,cond_true]
      rw [g4 (t.app ws) (by simp [St.rZ,hn]) fun k hk=>fQ hn.symm (hR k (by simp only [List.mem_append];exact .inr (.inr hk)))]
      rw [St.aH,St.aH] at hk';exact hk'
  ·exact h.elim
 ·rename_i f first captured ho;exact .of (Ou ho) h
 ·rename_i t x i ho;exact .of (UN ho) h
 ·rename_i E x ho
  split at h
  ·rename_i d hd;exact .of (Xw ho hd) h
  ·exact h.elim
 ·rename_i t x lo hi ho;exact .of (UO ho) h
 ·exact h.elim
end
section
variable (T:Nat→Ty) (C:Nat→List AR→(RV→Prop)→Prop) (L:Nat)
def pY:List Key→(List Key→Prop)→Prop
 |[],K=>K []
 | .slot i::r,K=>pY r fun l=>K (.slot i::l)
 | .mem i::r,K=>pY r fun l=>K (.mem i::l)
 | .tok i::r,K=>pY r fun l=>K (.tok i::l)
theorem sF:∀(l:List Key) (K:List Key→Prop),pY l K=K l
 |[],_=>rfl
 | .slot i::r,K=>by simp only [pY];rw [sF r]
 | .mem i::r,K=>by simp only [pY];rw [sF r]
 | .tok i::r,K=>by simp only [pY];rw [sF r]
def qc (ops:List Oper):List Oper→St→List RW→(List RW→St→Prop)→Prop
 |[],s,fp,K=>K fp s
 |o::r,s,fp,K=>match o.guard with
  |none=>tH T C L o s fun p s1=>pY p.1 fun R=>pY p.2 fun W=>qc ops r s1 (fp++[(R,W)]) K
  |some (g,want)=>match (match ops[g]? with|some og=>og.dst|none=>none) with
   |some t=>(match s.get t with
    | .data (.bool b)=>bif Nat.blt t s.n then Br b fun b=>bif (b == want) then tH T C L o (s.set t (.data (.bool b))) (fun p s1=>pY p.1 fun R=>pY p.2 fun W=>qc ops r s1 (fp++[(.slot t::R,W)]) K)
      else qc ops r ((s.set t (.data (.bool b))).put o.dst .gone) (fp++[([.slot t],dK o.dst)]) K else False
    | .gone=>qc ops r (s.put o.dst .gone) (fp++[([.slot t],dK o.dst)]) K
    |_=>False)
   |none=>False
def wD:List Oper→List Nat
 |[]=>[]
 |o::r=>match o.op,o.dst with
  | .call _,some d=>d::wD r
  |_,_=>wD r
def know (s:St):List Nat→Prop→Prop
 |[],X=>X
 |d::r,X=>match s.get d with
  | .data a=>a.wf L→know s r X
  |_=>know s r X
inductive AX where
 |normal|ret|exit (id:Nat)
def AX.then (next:St→Prop) (Q:AX→St→Prop):AX→St→Prop
 | .normal,s=>next s
 |e,s=>Q e s
def AX.inBlock (id:Nat) (Q:AX→St→Prop):AX→St→Prop
 | .exit j,s=>bif Nat.beq j id then Q .normal s else Q (.exit j) s
 |e,s=>Q e s
def za (x:Nat):List Nat→Bool
 |[]=>false
 |y::r=>Nat.beq x y||za x r
def gY:List (Nat×Nat)→Nat→Nat
 |[],τ=>τ
 |(σ,σ')::r,τ=>bif Nat.beq σ τ then σ' else gY r τ
def JA (s t:St) (r:List (Nat×Nat)) (im:List Nat) (v v':SV):Prop:=
 match v' with
 | .undef=>True
 | .data a=>(match v with
  | .data b=>b=a
  | .aj=>a= .sl []
  | .fr l=>AV.sl l=a
  | .own τ g=>(match s.tok τ with
   |some tk=>bif Nat.beq tk.gen g&&(tk.frz|| !za τ im) then AV.sl tk.l=a else False
   |_=>False)
  |_=>False)
 | .aj=>v= .aj
 | .fr l=>(match v with
  | .fr m=>m=l
  | .aj=>l= []
  | .own τ g=>(match s.tok τ with
   |some tk=>bif Nat.beq tk.gen g&&(tk.frz|| !za τ im) then tk.l=l else False
   |_=>False)
  |_=>False)
 | .own τ 0=>(match v,t.tok τ with
  | .own τ' g,some _=>(match s.tok τ' with
   |some tk=>bif Nat.beq τ' (gY r τ)&&Nat.beq tk.gen g then True else False
   |none=>False)
  | .aj,some _=>(match s.tok (gY r τ) with
   |none=>True
   |some _=>False)
  |_,_=>False)
 | .box d 0 off=>(match v,t.mem d with
  | .box d' g off',some _=>(match s.mem d with
   |some (g',_)=>bif Nat.beq d d'&&Nat.beq off off'&&Nat.beq g' g then True else False
   |none=>False)
  |_,_=>False)
 | .bsl d 0 n=>(match v,t.mem d with
  | .bsl d' g n',some _=>(match s.mem d with
   |some (g',_)=>bif Nat.beq d d'&&Nat.beq n n'&&Nat.beq g' g then True else False
   |none=>False)
  |_,_=>False)
 | .ref a=>v= .ref a
 | .argv i j a=>v= .argv i j a
 | .old a=>v= .old a
 | .fnr f c=>v= .fnr f c
 |_=>False
def Ov (s t:St) (r:List (Nat×Nat)) (im:List Nat):List SV→List SV→Prop
 |[],[]=>True
 |v::q,v'::q'=>JA s t r im v v'∧Ov s t r im q q'
 |_,_=>False
def LV (s t:St) (r:List (Nat×Nat)) (im:List Nat) (v v':SV):Prop:=
 match v' with
 | .gW l'=>(match v with| .gW l=>Ov s t r im l l'|_=>False)
 |v'=>JA s t r im v v'
def PY (s t:St) (r:List (Nat×Nat)) (im:List Nat):List SV→List SV→Prop
 |[],[]=>True
 |v::q,v'::q'=>LV s t r im v v'∧PY s t r im q q'
 |_,_=>False
def wE (s t:St) (r:List (Nat×Nat)) (im:List Nat):List (Nat×SV)→Prop
 |[]=>True
 |(i,v')::q=>LV s t r im (s.get i) v'∧wE s t r im q
def ze (s t:St) (r:List (Nat×Nat)) (im:List Nat):List (Nat×List SV)→Prop
 |[]=>True
 |(d,cs')::q=>(match s.mem d with|some (_,cs)=>PY s t r im cs cs'|none=>False)∧ze s t r im q
def zf (s:St) (r:List (Nat×Nat)):List (Nat×Nat×List AV×Nat)→Prop
 |[]=>True
 |(τ,E,l,k)::q=>(match s.tok (gY r τ) with
  |some tk=>bif Nat.beq tk.E E&&(bif Nat.beq k 2 then tk.lin else (!tk.frz&&(Nat.beq k 0||tk.lin))) then tk.l=l else False
  |none=>bif (T E).good then l= [] else False)∧zf s r q
structure Fr where
 slots:List (Nat×SV)
 jB:List (Nat×List SV)
 toks:List (Nat×Nat×List AV×Nat)
def Xx (v v':SV) (acc:List (Nat×Nat)):List (Nat×Nat):=
 match v',v with
 | .own τ _,.own τ' _=>(τ,τ')::acc
 |_,_=>acc
def Xy:List SV→List SV→List (Nat×Nat)→List (Nat×Nat)
 |v::q,v'::q',acc=>Xy q q' (Xx v v' acc)
 |_,_,acc=>acc
def VP (v v':SV) (acc:List (Nat×Nat)):List (Nat×Nat):=
 match v',v with
 | .gW l',.gW l=>Xy l l' acc
 |v',v=>Xx v v' acc
def VQ:List SV→List SV→List (Nat×Nat)→List (Nat×Nat)
 |v::q,v'::q',acc=>VQ q q' (VP v v' acc)
 |_,_,acc=>acc
def Wz (s:St):List (Nat×SV)→List (Nat×Nat)→List (Nat×Nat)
 |[],acc=>acc
 |(i,v')::q,acc=>Wz s q (VP (s.get i) v' acc)
def WA (s:St):List (Nat×List SV)→List (Nat×Nat)→List (Nat×Nat)
 |[],acc=>acc
 |(d,cs')::q,acc=>WA s q (match s.mem d with|some (_,cs)=>VQ cs cs' acc|none=>acc)
def JB:List (Nat×Nat)→(List (Nat×Nat)→Prop)→Prop
 |[],K=>K []
 |(a,b)::r,K=>JB r fun l=>K ((a,b)::l)
theorem Ii:∀(l:List (Nat×Nat)) (K:List (Nat×Nat)→Prop),JB l K=K l
 |[],_=>rfl
 |(a,b)::r,K=>by simp only [JB];rw [Ii r]
def imR (r:List (Nat×Nat)):List (Nat×Nat×List AV×Nat)→List Nat
 |[]=>[]
 |(τ,_)::q=>gY r τ::imR r q
def qd:List Nat→Bool
 |[]=>true
 |x::r=> !za x r&&qd r
def look {α:Type}:List (Nat×α)→Nat→Option α
 |[],_=>none
 |(j,v)::r,i=>bif Nat.beq i j then some v else look r i
def Fr.st (f:Fr) (n:Nat):St where
 n:=n
 get i:=match look f.slots i with|some v=>v|none=>.undef
 mem d:=match look f.jB d with|some v=>some (0,v)|none=>none
 tok τ:=match look f.toks τ with|some (E,l,k)=>some ⟨0,Nat.beq k 2,E,l, !Nat.beq k 0⟩|none=>none
def Weak (s:St) (f:Fr):Prop:=JB (WA s f.jB (Wz s f.slots [])) fun r=>qd (imR r f.toks)=true∧wE s (f.st s.n) r (imR r f.toks) f.slots∧ze s (f.st s.n) r (imR r f.toks) f.jB∧zf T s r f.toks
inductive PZ (body:(AX→St→Prop)→St→Prop) (n:Nat) (Q:AX→St→Prop) (s:St):Prop
 |mk (ι:Type) (inv:ι→Prop) (fr:ι→Fr) (μ:ι→Nat) (x₀:ι) (i₀:inv x₀) (h₀:Weak T s (fr x₀))
  (hr:∀x,inv x→body (AX.then (fun s'=>∃x',inv x'∧s'.n=n∧Weak T s' (fr x')∧μ x' < μ x) Q) ((fr x).st n))
def awp:Code→(AX→St→Prop)→St→Prop
 | .skip,Q,s| .label _,Q,s=>Q .normal s
 | .ret,Q,s=>Q .ret s
 | .exit id,Q,s=>Q (.exit id) s
 | .seq a b,Q,s=>awp a (AX.then (awp b Q) Q) s
 | .block id b,Q,s=>awp b (AX.inBlock id Q) s
 | .cond (.tmp c) a b,Q,s=>match s.get c with
  | .data (.bool t)=>Br t fun t=>bif t then awp a Q (s.set c (.data (.bool true))) else awp b Q (s.set c (.data (.bool false)))
  |_=>False
 | .cond (.const (.bool t)) a b,Q,s=>bif t then awp a Q s else awp b Q s
 | .loop b,Q,s=>PZ T (awp b) s.n Q s
 | .region _ ops false,Q,s=>Df T C L ops.toList ops.toList s (Q .normal)
 | .region _ ops true,Q,s=>qc T C L ops.toList ops.toList s [] fun fp s1=>bif yV ops.toList fp then know L s1 (wD ops.toList) (Q .normal s1) else False
 |_,_,_=>False
end
def qg (i:Nat):Nat→Nat→List SV→Bool
 |_,0,[]=>true
 |off,n+1,.argv i' j _::r=>Nat.beq i i'&&Nat.beq off j&&qg i (off+1) n r
 |_,_,_=>false
section
variable (T:Nat→Ty)
mutual
def uV:RV→St→SV→List (Nat×Nat)→(St→List (Nat×Nat)→Prop)→Prop
 | .d b,s,v,acc,K=>kJ s v fun a s1=>VC (a=b) (K s1 acc)
 | .own E l,s,v,acc,K=>(match v with
  | .own τ g=>(match s.tok τ with
   |some t=>bif Nat.beq t.gen g&& !t.frz&&Nat.beq t.E E then VC (t.l=l) (K s ((τ,g)::acc)) else False
   |none=>False)
  | .aj=>bif (T E).good then VC (l= []) (K s acc) else False
  |_=>False)
 | .lin E l,s,v,acc,K=>(match v with
  | .own τ g=>(match s.tok τ with
   |some t=>bif Nat.beq t.gen g&& !t.frz&&Nat.beq t.E E&&(T E).flat then VC (t.l=l) (K s ((τ,g)::acc)) else False
   |none=>False)
  | .aj=>bif (T E).good then VC (l= []) (K s acc) else False
  |_=>False)
 | .fr l,s,v,acc,K=>(match v with
  | .fr m=>VC (m=l) (K s acc)
  | .aj=>VC (l= []) (K s acc)
  | .own τ g=>kJ s (.own τ g) fun a s1=>VC (a= .sl l) (K s1 acc)
  |_=>False)
 | .aj,s,v,acc,K=>(match v with| .aj=>K s acc|_=>False)
 | .arg i off n,s,v,acc,K=>(match v with| .gW vs=>bif Nat.blt 0 n&&qg i off n vs then K s acc else False|_=>False)
 | .junk,s,_,acc,K=>K s acc
 | .eff _ _ _,_,_,_,_=>False
 | .ptr _,_,_,_,_=>False
 | .agg rs,s,v,acc,K=>(match v with| .gW vs=>Eu rs s vs acc K|_=>False)
 | .tup rs,s,v,acc,K=>(match v with| .tup vs=>Eu rs s vs acc K|_=>False)
termination_by structural r=>r
def Eu:List RV→St→List SV→List (Nat×Nat)→(St→List (Nat×Nat)→Prop)→Prop
 |[],s,vs,acc,K=>(match vs with|[]=>K s acc|_=>False)
 |r::rs,s,vs,acc,K=>(match vs with|v::vs=>uV r s v acc fun s1 WB=>Eu rs s1 vs WB K|[]=>False)
termination_by structural rs=>rs
end
end
mutual
def RV.xU:RV→Bool
 | .lin _ _=>true
 | .agg l=>RV.JC l
 | .tup l=>RV.JC l
 |_=>false
termination_by structural r=>r
def RV.JC:List RV→Bool
 |[]=>false
 |r::rs=>RV.xU r||RV.JC rs
termination_by structural rs=>rs
end
section
variable (T:Nat→Ty)
mutual
def xV:RV→St→SV→List Nat→(List Nat→Prop)→Prop
 | .d a,_,v,acc,K=>(match v with| .data b=>bif b.flat then VC (b=a) (K acc) else False|_=>False)
 | .lin E l,s,v,acc,K=>(match v with
  | .own τ g=>(match s.tok τ with
   |some t=>bif Nat.beq t.gen g&&t.lin&&Nat.beq t.E E then VC (t.l=l) (K (τ::acc)) else False
   |none=>False)
  | .aj=>bif (T E).good then VC (l= []) (K acc) else False
  |_=>False)
 | .junk,_,_,acc,K=>K acc
 | .agg rs,s,v,acc,K=>(match v with| .gW vs=>Ij rs s vs acc K|_=>False)
 | .tup rs,s,v,acc,K=>(match v with| .tup vs=>Ij rs s vs acc K|_=>False)
 |_,_,_,_,_=>False
termination_by structural r=>r
def Ij:List RV→St→List SV→List Nat→(List Nat→Prop)→Prop
 |[],_,vs,acc,K=>(match vs with|[]=>K acc|_=>False)
 |r::rs,s,vs,acc,K=>(match vs with|v::vs=>xV r s v acc fun WB=>Ij rs s vs WB K|[]=>False)
termination_by structural rs=>rs
end
end
def zh (s:St):List (Nat×Nat)→Bool
 |[]=>true
 |(τ,g)::r=>(match s.tok τ with|some t=>Nat.beq t.gen g&& !t.frz|none=>false)&&r.all (fun p=> !Nat.beq p.1 τ)&&zh s r
section
variable (T:Nat→Ty)
def Sl (s:St):List ResultVar→(List SV→Prop)→Prop
 |[],K=>K []
 | .tmp t::r,K=>Sl s r fun vs=>K (s.get t::vs)
 | .cell a t::r,K=>(match s.get a with
  | .box d g off=>(match s.mem d with
   |some (g',cells)=>bif Nat.beq g' g then jD (T t) cells off fun v=>Sl s r fun vs=>K (v::vs) else False
   |none=>False)
  |_=>False)
def UQ:List SV→SV
 |[v]=>v
 |vs=>.tup vs
def LW (r:RV) (s:St) (v:SV):Prop:=
 match r with
 | .eff i r' cs=>(match s.mem (1000000+i) with
  |some (_,cells)=>Eu T (r'::cs) s (v::cells) [] fun s1 acc=>VC (zh s1 acc=true) True
  |none=>False)
 | .ptr cs=>(match v with
  | .box d g 0=>(match s.mem d with
   |some (g',cells)=>bif Nat.beq g' g then lH s cells fun as _=>VC (as=cs) True else False
   |none=>False)
  |_=>False)
 |r=>bif r.xU then xV T r s v [] fun acc=>VC (qd acc=true) True else uV T r s v [] fun s1 acc=>VC (zh s1 acc=true) True
theorem Sn {r:RV} {s:St} {v:SV} (h:r.uZ=false):LW T r s v=(bif r.xU then xV T r s v [] fun acc=>VC (qd acc=true) True else uV T r s v [] fun s1 acc=>VC (zh s1 acc=true) True):=by
 cases r<;>first|rfl|cases h
def oH (results:List ResultVar) (r:RV):AX→St→Prop
 | .exit _,_=>False
 |_,s=>Sl T s results fun vs=>LW T r s (UQ vs)
end
def aV:Nat→List AR→List (Nat×SV)
 |_,[]=>[]
 |i,.d a::r=>(i,.data a)::aV (i+1) r
 |i,.ref a::r=>(i,.ref a)::aV (i+1) r
 |i,.old a::r=>(i,.old a)::aV (i+1) r
 |i,.fn f caps::r=>(i,.fnr f caps)::aV (i+1) r
 |i,.bx _::r=>(i,.box (1000000+i) 0 0)::aV (i+1) r
 |i,.lend _::r=>(i,.undef)::aV (i+1) r
def dB:Nat→List AR→List (Nat×List SV)
 |_,[]=>[]
 |i,.bx cells::_=>[(1000000+i,cells)]
 |i,_::r=>dB (i+1) r
def Qb:List AR→Bool
 |[]=>true
 | .bx _::r=>lK r
 | .lend _::_=>false
 |_::r=>Qb r
def vH (i:Nat):Nat→List AV→List SV
 |_,[]=>[]
 |j,a::r=>.argv i j a::vH i (j+1) r
def gu:Nat→List AR→List (Nat×SV)
 |_,[]=>[]
 |i,.d a::r=>(i,match a with| .agg l=>.gW (vH i 0 l)|a=>.data a)::gu (i+1) r
 |i,.ref a::r=>(i,.ref a)::gu (i+1) r
 |i,.old a::r=>(i,.old a)::gu (i+1) r
 |i,.fn f caps::r=>(i,.fnr f caps)::gu (i+1) r
 |i,.bx _::r=>(i,.box (1000000+i) 0 0)::gu (i+1) r
 |i,.lend _::r=>(i,.undef)::gu (i+1) r
def entry (n:Nat) (args:List AR):St:=(Fr.mk (aV 0 args) (dB 0 args) []).st n
end Go.Proofs.YtpfgedlimdeffaaGreat.Abs
namespace Go.Proofs.YtpfgedlimdeffaaGreat.Abs
abbrev i64 (n:Int):AV:=.int .i64 n
abbrev ints (l:List Int):AV:=.sl (l.map i64)
structure Step where
 (at' cap:Int)
structure Mode where
 dur:Int
 (use con:List Int)
structure au where
 name:ByteArray
 fam:Int
 modes:List Mode
structure Link where
 (src dst:Int)
 DT:Bool
 lag:Int
structure aP where
 steps:List Step
 setup:List (List Int)
structure Proj where
 dead:Int
 acts:List au
 links:List Link
 aU:List aP
 aL:List Int
structure aA where
 (starts modes:List Int)
structure Rul where
 (kind a b c:Int)
structure Lit where
 (kind act val:Int)
structure Dom where
 (lo hi:List Int)
 modes:List (List Int)
structure Infer where
 lit:Lit
 rule:Rul
 clause:List Lit
structure Lin where
 kind:Int
 rule:Rul
 clause:List Lit
abbrev Step.av (x:Step):AV:=.agg [i64 x.at',i64 x.cap]
abbrev Mode.av (x:Mode):AV:=.agg [i64 x.dur,ints x.use,ints x.con]
abbrev au.av (x:au):AV:=.agg [.str x.name,i64 x.fam,.sl (x.modes.map Mode.av)]
abbrev Link.av (x:Link):AV:=.agg [i64 x.src,i64 x.dst,.bool x.DT,i64 x.lag]
abbrev aP.av (x:aP):AV:=.agg [.sl (x.steps.map Step.av),.sl (x.setup.map ints)]
abbrev Proj.av (x:Proj):AV:=.agg [i64 x.dead,.sl (x.acts.map au.av),.sl (x.links.map Link.av),.sl (x.aU.map aP.av),ints x.aL]
abbrev aA.av (x:aA):AV:=.agg [ints x.starts,ints x.modes]
abbrev Rul.av (x:Rul):AV:=.agg [i64 x.kind,i64 x.a,i64 x.b,i64 x.c]
abbrev Lit.av (x:Lit):AV:=.agg [i64 x.kind,i64 x.act,i64 x.val]
abbrev Dom.av (x:Dom):AV:=.agg [ints x.lo,ints x.hi,.sl (x.modes.map ints)]
abbrev lits (l:List Lit):AV:=.sl (l.map Lit.av)
abbrev Infer.av (x:Infer):AV:=.agg [i64 x.lit.kind,i64 x.lit.act,i64 x.lit.val,i64 x.rule.kind,i64 x.rule.a,i64 x.rule.b,i64 x.rule.c,lits x.clause]
abbrev Lin.av (x:Lin):AV:=.agg [i64 x.kind,i64 x.rule.kind,i64 x.rule.a,i64 x.rule.b,i64 x.rule.c,lits x.clause]
end Go.Proofs.YtpfgedlimdeffaaGreat.Abs
