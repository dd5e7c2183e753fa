import Derived.DeepKeys3
import Derived.Calls
import Derived.Below
import Derived.KernelRfl
import Derived.WideKeyArr
set_option linter.all false
open Nat renaming beq→A0, blt→A1, ble→A2
open Go.Region renaming before→A3
open List renaming range→A4
namespace Go.AM
theorem dT {p : Prop} [Decidable p] (h : p) : decide p = true := decide_eq_true h
theorem dF {p : Prop} [Decidable p] (h : ¬ p) : decide p = false := decide_eq_false h
theorem cT.{u} {α : Sort u} {a b : α} : cond true a b = a := rfl
theorem cN.{u} {α : Sort u} {a b : α} : cond false a b = b := rfl
def globs:List Nat:=[]
def qhj:List Nat:=[]
inductive AV where
 | top
 | int (k:IntKind) (n:Int)
 | bool (b:Bool)
 | str (s:ByteArray)
 | agg (cs:List AV)
 | tup (vs:List AV)
 | nils
 | optr (b:Bool) (x:AV)
 | lst (e k:Nat) (lab:Option Nat) (xs:List AV)
 | ptr (x:AV)
 | clo (f:Nat) (caps:List AV)
 | box (cs:List AV)
 | pb (slot off:Nat)
 | und
 | ub (p:Bool)
 | sb (id e k off n:Nat)
 | pe (id k j o:Nat)
 | tpr (id e k off n:Nat) (rest:List AV)
 | obj (e k:Nat) (xs:List AV)
 | mpv (ks vs:List AV)
 | hob (kd:Nat) (ks vs:List AV)
 | mb (kd id:Nat)
 | bxg (cs:List AV)
 | slf
 | agr (cs:List AV)
 | clb (f:Nat) (caps:List AV)
abbrev Env:=List (Nat×AV)
def AV.ent:AV→Bool
 | .box _ | .obj .. | .hob .. | .bxg _=>true
 | _=>false
def AV.sk:AV→AV
 | .box _=>.box []
 | .obj _ _ _=>.obj 0 0 []
 | .hob _ _ _=>.hob 0 [] []
 | .bxg _=>.box []
 | x=>x
def snapA (off n:Nat) (xs:List AV):List AV:=(xs.drop off).take n
def AV.cells:AV→List AV
 | .agg cs=>cs
 | x=>[x]
def AV.one:AV→Bool
 | .int .. | .bool _ | .str _ | .nils | .optr .. | .lst .. | .ptr _ | .clo .. | .mpv ..=>true
 | _=>false
def AV.strip1:AV→AV
 | .lst e k _ xs=>.lst e k none xs
 | x=>x
def AV.strip:AV→AV
 | .lst e k _ xs=>.lst e k none xs
 | .agr cs=>.agr (cs.map AV.strip1)
 | x=>x
def AV.lab? : AV→Option Nat
 | .lst _ _ l _=>l
 | _=>none
def AV.relab (l:Nat) (m:Option Nat):AV→AV
 | .lst e k (some c) xs=>match A0 c l with
  | true=>.lst e k m xs
  | false=>.lst e k (some c) xs
 | x=>x
def AV.relabB (l:Nat) (m:Option Nat):AV→AV
 | .box cs=>.box (cs.map (AV.relab l m))
 | .agr cs=>.agr (cs.map (AV.relab l m))
 | x=>x.relab l m
def relabE (l:Nat) (m:Option Nat) (env:Env):Env:=env.map fun p=>(p.1,p.2.relabB l m)
def AV.hasLab (l:Nat) (x:AV):Bool:=match x.lab? with
 | some c=>A0 c l
 | none=>false
def AV.hasLabB (l:Nat):AV→Bool
 | .box cs=>cs.any (AV.hasLab l)
 | .agr cs=>cs.any (AV.hasLab l)
 | x=>x.hasLab l
def labIn (l:Nat) (env:Env):Bool:=env.any fun p=>p.2.hasLabB l
def look:Env→Nat→Option AV
 | [],_=>none
 | (t,x)::r,s=>match A0 t s with
  | true=>some x
  | false=>look r s
def ins (d:Nat) (v:AV):Env→Env
 | []=>[(d,v)]
 | (t,x)::r=>match A1 t d with
  | true=>(t,x)::ins d v r
  | false=>match A0 t d with
   | true=>(d,v)::r
   | false=>(d,v)::(t,x)::r
def dropE (keep:List Nat) (env:Env):Env:=env.filter fun p=>keep.any (A0 p.1)
def aconst1:Value→Option AV
 | .bool b=>some (.bool b)
 | .int k n=>some (.int k n)
 | .string s=>some (.str s)
 | .slice none 0 0=>some .nils
 | .pointer none=>some (.optr true .und)
 | .map none=>some (.mpv [] [])
 | _=>none
def optAll {α:Type}:List (Option α)→Option (List α)
 | []=>some []
 | some x::r=>match optAll r with
  | some l=>some (x::l)
  | none=>none
 | none::_=>none
def aconst:Value→Option AV
 | .agg cs=>match optAll (cs.toList.map aconst1) with
  | some l=>some (.agg l)
  | none=>none
 | .nilFunc=>some .top
 | v=>aconst1 v
def aop (env:Env):Operand→Option AV
 | .tmp t=>match look env t with
  | some (.box _)=>match A1 t 1000000 with
   | true=>some (.pb t 0)
   | false=>none
  | some (.bxg _)=>match A1 t 1000000 with
   | true=>some (.pb t 0)
   | false=>none
  | some (.obj ..)=>none
  | some (.hob ..)=>none
  | some x=>some x
  | none=>none
 | .const v=>aconst v
 | .func f=>some (.clo f [])
 | .global _=>none
def tAgg (P:Program) (t:TypeId):Bool:=match P.underlying t with
 | some (.struct _)=>true
 | some (.array ..)=>true
 | _=>false
def tSize (P:Program) (t:TypeId):Option Nat:=(P.info? t).map (·.size)
def cut (P:Program) (t:TypeId) (cs:List AV) (off:Nat):Option AV :=
 match tSize P t with
 | none=>none
 | some sz=>match A2 (off+sz) cs.length && (P.underlying t).isSome with
  | false=>none
  | true=>match tAgg P t with
   | true=>some (.agg (((cs.drop off).take sz).map AV.strip))
   | false=>match A0 sz 1 with
    | true=>match cs[off]? with
     | some c=>match c.one with
      | true=>some c
      | false=>none
     | none=>none
    | false=>none
def iarith (op:BinOp) (k:IntKind) (a b:Int):Option Int :=
 match op with
 | .add=>some (k.wrap (a+b))
 | .sub=>some (k.wrap (a - b))
 | .mul=>some (k.wrap (a * b))
 | .and=>some (k.wrap ((BitVec.ofInt k.bits a &&& BitVec.ofInt k.bits b).toNat))
 | .or=>some (k.wrap ((BitVec.ofInt k.bits a ||| BitVec.ofInt k.bits b).toNat))
 | .xor=>some (k.wrap ((BitVec.ofInt k.bits a ^^^ BitVec.ofInt k.bits b).toNat))
 | .andNot=>some (k.wrap ((BitVec.ofInt k.bits a &&& ~~~(BitVec.ofInt k.bits b)).toNat))
 | .quo=>if b=0 then none else some (k.wrap (a.tdiv b))
 | .rem=>if b=0 then none else some (a.tmod b)
 | _=>none
def icmp (op:BinOp) (a b:Int):Option Bool :=
 match op with
 | .eql=>some (a == b)
 | .neq=>some (a != b)
 | .lss=>some (decide (a<b))
 | .leq=>some (decide (a≤b))
 | .gtr=>some (decide (a > b))
 | .geq=>some (decide (a ≥ b))
 | _=>none
def kbeq (a b:IntKind):Bool:=match a,b with
 | .i8,.i8 | .i16,.i16 | .i32,.i32 | .i64,.i64 | .u8,.u8 | .u16,.u16 | .u32,.u32 | .u64,.u64=>true
 | _,_=>false
def aeq1:Nat→AV→AV→Option Bool
 | 0,.int k a,.int k' b=>match kbeq k k' with
  | true=>some (a == b)
  | false=>none
 | 1,.bool a,.bool b=>some (a == b)
 | 2,.str a,.str b=>some (a.toList == b.toList)
 | _,_,_=>none
def aeqL:List Nat→List AV→List AV→Option Bool
 | [],[],[]=>some true
 | k::ks,x::xs,y::ys=>match aeq1 k x y,aeqL ks xs ys with
  | some a,some b=>some (a && b)
  | _,_=>none
 | _,_,_=>none
def Xj (P:Program) (t:TypeId):Option Nat :=
 match P.underlying t with
 | some (.int _)=>some 0
 | some .bool=>some 1
 | some .string=>some 2
 | _=>none
def Vx (P:Program):Nat→List Field→Option (List Nat)
 | _,[]=>some []
 | i, f :: r => match f.name != "_" && A0 f.offset i with
  | true=>match Xj P f.type,Vx P (i+1) r with
   | some k,some l=>some (k::l)
   | _,_=>none
  | false=>none
def DZ (P:Program) (t:TypeId):Option (List Nat) :=
 match P.underlying t with
 | some (.struct fs)=>match !P.stoodInHeld t && !P.eqGuardType P.depth t with
  | true=>Vx P 0 fs.toList
  | false=>none
 | _=>none
def flatArr (P:Program) (t:TypeId):Option (List Nat) :=
 match P.underlying t with
 | some (.array m e)=>match !P.eqGuardType P.depth t,Xj P e,tSize P e with
  | true,some k,some 1=>some (List.replicate m k)
  | _,_,_=>none
 | _=>none
def flatEq (P:Program) (t:TypeId):Option (List Nat) :=
 match DZ P t with
 | some ks=>some ks
 | none=>flatArr P t
def abin (P:Program) (op:BinOp) (t:TypeId) (x y:AV):Option AV :=
 match x,y with
 | .int k a,.int k' b=>match op with
  | .shl=>if b<0 then none else some (.int k (k.wrap (a * 2 ^ (min b.toNat k.bits))))
  | .shr=>if b<0 then none else some (.int k (a.fdiv (2 ^ (min b.toNat k.bits))))
  | _=>match kbeq k k' with
   | false=>none
   | true=>match iarith op k a b with
    | some n=>some (.int k n)
    | none=>(icmp op a b).map .bool
 | .bool a,.bool b=>match op,P.underlying t with
  | .eql,some .bool=>some (.bool (a == b))
  | .neq,some .bool=>some (.bool (!(a == b)))
  | _,_=>none
 | .nils,.nils=>match op,P.underlying t with
  | .eql,some (.slice _)=>some (.bool true)
  | _,_=>none
 | .lst _ _ _ xs,.nils=>match op,P.underlying t with
  | .eql,some (.slice _)=>some (.ub xs.isEmpty)
  | _,_=>none
 | .optr b _,.optr true _=>match op,P.underlying t with
  | .eql,some (.pointer _)=>some (.bool b)
  | .neq,some (.pointer _)=>some (.bool (!b))
  | _,_=>none
 | .str a,.str b=>match op with
  | .eql=>some (.bool (a.toList == b.toList))
  | .neq=>some (.bool (!(a.toList == b.toList)))
  | .lss=>some (.bool (Op.bytesLess a.toList b.toList))
  | .leq=>some (.bool (Op.bytesLess a.toList b.toList || a.toList == b.toList))
  | .gtr=>some (.bool (!(Op.bytesLess a.toList b.toList || a.toList == b.toList)))
  | .geq=>some (.bool (!Op.bytesLess a.toList b.toList))
  | .add=>if ((a.size+b.size:Nat):Int) > IntKind.i64.max then none else some (.str (a++b))
  | _=>none
 | .agg xs,.agg ys=>match flatEq P t with
  | some ks=>match op with
   | .eql=>(aeqL ks xs ys).map .bool
   | .neq=>(aeqL ks xs ys).map fun b=>.bool (!b)
   | _=>none
  | none=>none
 | _,_=>none
def aun (op:UnOp) (x:AV):Option AV :=
 match op,x with
 | .not,.bool b=>some (.bool !b)
 | .neg,.int k n=>some (.int k (k.wrap (0 - n)))
 | _,_=>none
def AV.san (c:AV):AV:=match c.one with
 | true=>c.strip1
 | false=>.top
def cutG (P:Program) (t:TypeId) (cs:List AV) (off:Nat):Option AV :=
 match cut P t (cs.map AV.san) off with
 | some v=>some v
 | none=>match tSize P t with
  | none=>none
  | some sz=>match A0 sz 1 && !tAgg P t && (P.underlying t).isSome,cs[off]? with
   | true,some (.sb id e k o m)=>some (.sb id e k o m)
   | true,some (.mb 0 id)=>some (.mb 0 id)
   | _,_=>none
def fillA (place:Nat→Option (Nat×Nat)) (cells:List AV):List (Nat×AV)→Option (List AV)
 | []=>some cells
 | (i,v)::rest=>match place i with
  | none=>none
  | some (off,size)=>match A0 v.cells.length size && A2 (off+size) cells.length && v.cells.all AV.one with
   | true=>fillA place (cells.take off++v.cells.map AV.strip++cells.drop (off+size)) rest
   | false=>none
def AV.partOk:AV→Bool
 | .sb ..=>true
 | .mb 0 _=>true
 | x=>x.one
def AV.gcells:AV→List AV
 | .agg cs=>cs.map AV.strip1
 | x=>[x]
def fillG (place:Nat→Option (Nat×Nat)) (cells:List AV):List (Nat×AV)→Option (List AV)
 | []=>some cells
 | (i,v)::rest=>match place i with
  | none=>none
  | some (off,size)=>match A0 v.gcells.length size && A2 (off+size) cells.length && v.gcells.all AV.partOk with
   | true=>fillG place (cells.take off++v.gcells++cells.drop (off+size)) rest
   | false=>none
def Yt (P:Program) (t:TypeId):Option (List AV) :=
 match (P.info? t).bind (·.zero) with
 | some z=>optAll (z.cells.toList.map aconst1)
 | none=>none
def fieldPl (P:Program) (t:TypeId) (f:Nat):Option (Nat×TypeId×Nat) :=
 match P.underlying t with
 | some (.struct fs)=>match fs[f]? with
  | some fd=>match tSize P fd.type with
   | some s=>some (fd.offset,fd.type,s)
   | none=>none
  | none=>none
 | _=>none
def abuild (P:Program) (t:TypeId) (parts:List (Nat×AV)):Option AV :=
 match P.underlying t,Yt P t with
 | some (.struct fs),some z=>match fs.toList.mapM (fun f=>(P.info? f.type).map fun i=>(f.offset,i.size)) with
  | some places=>(fillA (fun i=>places[i]?) z parts).map .agg
  | none=>none
 | some (.array _ e),some z=>match P.info? e with
  | some ie=>(fillA (fun i=>some (i * ie.size,ie.size)) z parts).map .agg
  | none=>none
 | _,_=>none
def abuildG (P:Program) (t:TypeId) (parts:List (Nat×AV)):Option AV :=
 match P.underlying t,Yt P t with
 | some (.struct fs),some z=>match fs.toList.mapM (fun f=>(P.info? f.type).map fun i=>(f.offset,i.size)),z.all AV.one with
  | some places,true=>(fillG (fun i=>places[i]?) z parts).map .agr
  | _,_=>none
 | _,_=>none
def inOrder:Nat→List (Nat×AV)→Bool
 | _,[]=>true
 | i,(j,_)::r=>A0 i j && inOrder (i+1) r
def JB (P:Program) (t:TypeId):Option (Nat×Nat) :=
 match P.underlying t with
 | some (.slice e)=>match tSize P e with
  | some s=>some (e,s)
  | none=>none
 | _=>none
def nilE (P:Program) (e:TypeId):AV→AV
 | .nils=>match JB P e with
  | some (e',k')=>.lst e' k' none []
  | none=>.nils
 | x=>x
def Ug (P:Program) (t:TypeId) (len:Nat) (parts:List (Nat×AV)):Option AV :=
 match JB P t with
 | some (e,s) =>
  match (match (P.info? e).bind (·.zero) with | some z=>A0 z.cells.size s | none=>false) && A0 parts.length len && A2 (len * s) 16777216 && inOrder 0 parts && A1 0 s && parts.all (fun p=>A0 p.2.cells.length s && p.2.cells.all AV.one) with
  | true=>some (.lst e s none ((parts.map fun p=>match p.2 with | .agg cs=>.agg (cs.map AV.strip) | x=>x.strip).map (nilE P e)))
  | false=>none
 | none=>none
def parts? (env:Env) (ps:Array (Nat×Operand)):Option (List (Nat×AV)) :=
 optAll (ps.toList.map fun p=>match aop env p.2 with
  | some v=>some (p.1,v)
  | none=>none)
def aload (P:Program) (env:Env) (t:TypeId):AV→Option AV
 | .pb s off=>match look env s with
  | some (.box cs)=>cut P t cs off
  | some (.bxg cs)=>cutG P t cs off
  | some (.hob 3 _ cs)=>cut P t cs off
  | _=>none
 | .ptr x=>cut P t (x.cells.map AV.strip) 0
 | .pe id k j o=>match look env id with
  | some (.obj _ k' xs)=>match A0 k k' with
   | true=>match xs[j]? with
    | some y=>cut P t (y.cells.map AV.strip) o
    | none=>none
   | false=>none
  | _=>none
 | _=>none
def UY (P:Program) (t:TypeId) (f:Nat):AV→Option AV
 | .pb s off=>match fieldPl P t f with
  | some (o,_,sz)=>match A1 0 sz with
   | true=>some (.pb s (off+o))
   | false=>none
  | none=>none
 | .ptr x=>match fieldPl P t f with
  | some (o,ft,sz)=>match A1 0 sz with
   | true=>(cut P ft x.cells o).map .ptr
   | false=>none
  | none=>none
 | .pe id k j o'=>match fieldPl P t f with
  | some (o,_,sz)=>match A1 0 sz with
   | true=>some (.pe id k j (o'+o))
   | false=>none
  | none=>none
 | _=>none
def UX (P:Program) (t:TypeId) (x i:AV):Option AV :=
 match x,i with
 | .lst e k _ xs,.int _ n=>match JB P t with
  | some (e',k')=>match A0 k k' with
   | true=>if 0≤n then (xs[n.toNat]?).map .ptr else none
   | false=>none
  | none=>none
 | .sb id e k off m,.int _ n=>match JB P t with
  | some (e',k')=>match A0 k k' with
   | true=>if 0≤n∧n<m then some (.pe id k (off+n.toNat) 0) else none
   | false=>none
  | none=>none
 | .pb s off,.int _ n=>match P.underlying t with
  | some (.array m e)=>match tSize P e with
   | some sz=>if 0≤n∧n<(m:Int)∧0<sz then some (.pb s (off+n.toNat * sz)) else none
   | none=>none
  | _=>none
 | .ptr x,.int _ n=>match P.underlying t with
  | some (.array m e)=>match tSize P e with
   | some sz=>if 0≤n∧n<(m:Int)∧0<sz then (cut P e x.cells (n.toNat * sz)).map .ptr else none
   | none=>none
  | _=>none
 | _,_=>none
def aindex (P:Program) (t:TypeId) (x i:AV):Option AV :=
 match x,i with
 | .str s,.int _ n=>match P.underlying t with
  | some .string=>if 0≤n then (s[n.toNat]?).map fun b=>.int .u8 b.toNat else none
  | _=>none
 | .agg cs,.int _ n=>match P.underlying t with
  | some (.array m e)=>match tSize P e with
   | some sz=>if 0≤n∧n<(m:Int) then cut P e (cs.map AV.strip) (n.toNat * sz) else none
   | none=>none
  | _=>none
 | _,_=>none
def aoptInt (env:Env) (d:Int):Option Operand→Option Int
 | none=>some d
 | some x=>match aop env x with
  | some (.int _ n)=>some n
  | _=>none
def keepLab (hi:Option Operand) (lab:Option Nat):Option Nat:=match hi with
 | none=>lab
 | some _=>none
def aslice (P:Program) (t:TypeId) (x:AV) (lo hi:Option Operand) (env:Env):Option AV :=
 match x with
 | .lst e k lab xs=>match JB P t with
  | some (e',k')=>match A0 k k' with
   | true=>match aoptInt env 0 lo,aoptInt env xs.length hi with
    | some l,some h=>if 0≤l∧l≤h∧h≤xs.length then some (.lst e k (keepLab hi lab) ((xs.take h.toNat).drop l.toNat)) else none
    | _,_=>none
   | false=>none
  | none=>none
 | .sb id e k off m=>match JB P t with
  | some (e',k')=>match A0 k k' with
   | true=>match aoptInt env 0 lo,aoptInt env m hi with
    | some l,some h=>if 0≤l∧l≤h∧h≤m then some (.sb id e k (off+l.toNat) (h.toNat - l.toNat)) else none
    | _,_=>none
   | false=>none
  | none=>none
 | .str s=>match P.underlying t with
  | some .string=>match aoptInt env 0 lo,aoptInt env s.size hi with
   | some l,some h=>if 0≤l∧l≤h∧h≤s.size then some (.str (s.extract l.toNat h.toNat)) else none
   | _,_=>none
  | _=>none
 | .nils=>match JB P t with
  | some _=>match aoptInt env 0 lo,aoptInt env 0 hi with
   | some l,some h=>if l=0∧h=0 then some .nils else none
   | _,_=>none
  | none=>none
 | _=>none
def alen (P:Program) (t:TypeId):AV→Option AV
 | .lst _ _ _ xs=>match P.underlying t with
  | some (.slice _)=>some (.int .i64 xs.length)
  | _=>none
 | .sb _ _ _ _ n=>match P.underlying t with
  | some (.slice _)=>some (.int .i64 n)
  | _=>none
 | .nils=>match P.underlying t with
  | some (.slice _)=>some (.int .i64 0)
  | _=>none
 | .str s=>match P.underlying t with
  | some .string=>some (.int .i64 s.size)
  | _=>none
 | _=>none
def byteOf:AV→Option Int
 | .int .u8 n=>some n
 | _=>none
def bytesA (s:ByteArray):List AV:=s.data.toList.map fun b=>.int .u8 b.toNat
def isByte (P:Program) (e:Nat):Bool:=match P.underlying e with
 | some (.int .u8)=>true
 | _=>false
def ZD (P:Program) (src dst:TypeId):AV→Option AV
 | .int k n=>match P.underlying dst,(P.underlying src).isSome with
  | some (.int k'),true=>some (.int k' (k'.wrap n))
  | some .string,true=>if 0≤n∧n<128 then some (.str ⟨#[UInt8.ofNat n.toNat]⟩) else none
  | _,_=>none
 | .str s=>match P.underlying src,P.underlying dst with
  | some .string,some (.slice e)=>match isByte P e with
   | true=>some (.lst e 1 none (bytesA s))
   | false=>none
  | _,_=>none
 | .lst e k _ xs=>match P.underlying src,P.underlying dst with
  | some (.slice e'),some .string=>match isByte P e' && A0 k 1,optAll (xs.map byteOf) with
   | true,some ns=>some (.str ⟨(ns.map fun n=>UInt8.ofNat n.toNat).toArray⟩)
   | _,_=>none
  | _,_=>none
 | .nils=>match P.underlying src,P.underlying dst with
  | some (.slice e'),some .string=>match isByte P e' with
   | true=>some (.str ByteArray.empty)
   | false=>none
  | _,_=>none
 | _=>none
def wfI (k:IntKind) (n:Int):Bool:=(Lit.int k n).wf
def keyVs:List AV→Option (List Value)
 | []=>some []
 | .int k n::r=>match wfI k n,keyVs r with
  | true,some l=>some (.int k n::l)
  | _,_=>none
 | _::_=>none
def AV.keyV:AV→Option Value
 | .int k n=>match wfI k n with
  | true=>some (.int k n)
  | false=>none
 | .agg cs=>match keyVs cs with
  | some l=>some (.agg l.toArray)
  | none=>none
 | _=>none
def arrKey (P:Program) (kt:TypeId) (e:TypeId) (q:IntKind):Bool :=
 A1 0 P.types.size && (P.plainKey e && (A0 (P.cellsOf e) 1 && (A0 (P.cellsOf kt) 2 && (match P.underlying e with
  | some (.int q')=>kbeq q' q
  | _=>false))))
def Ns (P:Program) (t:TypeId) (q:IntKind):Bool :=
 (match P.underlying t with | some (.int q')=>kbeq q' q | _=>false) && A0 (P.cellsOf t) 1
def qbv (P:Program) (q:IntKind):List Field→Bool
 | [f0, f1, f2] => f0.name != "_" && (f1.name != "_" && (f2.name != "_" && (A0 f0.offset 0 && (A0 f1.offset 1 && (A0 f2.offset 2 && (Ns P f0.type q && (Ns P f1.type q && Ns P f2.type q)))))))
 | _=>false
def qaN (P:Program) (kt:TypeId) (q:IntKind):Bool :=
 A1 0 P.types.size && (P.keyType kt && (P.keyTypeAt 2 kt && (P.tiled 2 kt && (A0 (P.cellsOf kt) 3 && (match P.underlying kt with | some (.struct fs)=>qbv P q fs.toList | _=>false)))))
def keyFits (P:Program) (kt:TypeId) (k:AV):Bool :=
 match P.underlying kt,k with
 | some (.int q),.int q' _=>kbeq q' q
 | some (.array n e),.agg [.int q _,.int q' _]=>A0 n 2 && (kbeq q' q && arrKey P kt e q)
 | some (.struct _),.agg [.int q _,.int q' _,.int q'' _]=>kbeq q' q && (kbeq q'' q && qaN P kt q)
 | _,_=>false
def ieqL:List AV→List AV→Bool
 | [],[]=>true
 | .int k a::r,.int k' b::r'=>kbeq k k' && a == b && ieqL r r'
 | _,_=>false
def akeq:AV→AV→Bool
 | .int k a,.int k' b=>kbeq k k' && a == b
 | .agg xs,.agg ys=>ieqL xs ys
 | _,_=>false
def findA (k:AV):List AV→Option Nat
 | []=>none
 | x::r=>match akeq x k with
  | true=>some 0
  | false=>match findA k r with
   | some j=>some (j+1)
   | none=>none
def ZB (env:Env):AV→Option (List AV×List AV)
 | .mpv ks vs=>some (ks,vs)
 | .mb 0 id=>match look env id with
  | some (.hob 0 ks vs)=>some (ks,vs)
  | _=>none
 | _=>none
def Xe (P:Program) (t:TypeId):Option (TypeId×TypeId) :=
 match P.underlying t with
 | some (.map k e)=>some (k,e)
 | _=>none
def nilZ (P:Program) (e:TypeId) (x:AV):AV :=
 match P.underlying e,x with
 | some (.struct fs),.agg cs=>.agg (cs.mapIdx fun j c=>match fs.toList.find? (fun fd=>A0 fd.offset j) with
  | some fd=>nilE P fd.type c
  | none=>c)
 | _,x=>nilE P e x
def zeroA1 (P:Program) (e:TypeId):Option AV :=
 match (P.info? e).bind (·.zero) with
 | some z=>(aconst z).map (nilZ P e)
 | none=>none
def alookup (P:Program) (t:TypeId) (env:Env) (m k:AV):Option AV :=
 match Xe P t,ZB env m with
 | some (kt,e),some (ks,vs)=>match keyFits P kt k && k.keyV.isSome && ks.all (keyFits P kt) with
  | true=>match findA k ks with
   | some j=>vs[j]?
   | none=>zeroA1 P e
  | false=>none
 | _,_=>none
def AV.mapElem:AV→Bool
 | .int .. | .bool _ | .str _ | .nils | .lst .. | .ptr _ | .mpv ..=>true
 | .agg cs=>cs.all fun c=>match c with | .int .. | .bool _ | .str _ | .nils | .lst ..=>true | _=>false
 | _=>false
def tprAt (id e k off m:Nat) (rest:List AV):Nat→Option AV
 | 0=>some (.sb id e k off m)
 | j+1=>(rest[j]?).map AV.strip
def apure (P:Program) (o:Oper) (env:Env):Option AV :=
 match o.op with
 | .move x=>aop env x
 | .assign x=>aop env x
 | .pick c a b=>match aop env c with
  | some (.bool true)=>aop env a
  | some (.bool false)=>aop env b
  | _=>none
 | .binOp op t x y _=>match aop env x,aop env y with
  | some a,some b=>abin P op t a b
  | _,_=>none
 | .lookup t x k false=>match aop env x,aop env k with
  | some m,some k=>(alookup P t env m k).map AV.strip
  | _,_=>none
 | .entry x=>match aop env x with
  | some (.mb 1 id)=>match look env id with
   | some (.hob 2 (k::_) (v::_))=>some (.tup [k,v])
   | _=>none
  | _=>none
 | .unOp op _ x=>match aop env x with
  | some a=>aun op a
  | none=>none
 | .convert s d x=>match aop env x with
  | some a=>ZD P s d a
  | none=>none
 | .build t ps=>match parts? env ps with
  | some l=>match abuild P t l with
   | some v=>some v
   | none=>(abuildG P t l).map AV.strip
  | none=>none
 | .buildSlice t n ps=>match parts? env ps with
  | some l=>Ug P t n l
  | none=>none
 | .load t x=>match aop env x with
  | some a=>aload P env t a
  | none=>none
 | .fieldAddr t x f=>match aop env x with
  | some a=>UY P t f a
  | none=>none
 | .field t x f=>match aop env x,fieldPl P t f with
  | some (.agg cs),some (o,ft,_)=>cut P ft (cs.map AV.strip) o
  | some (.agr cs),some (o,ft,_)=>cutG P ft cs o
  | _,_=>none
 | .indexAddr t x i=>match aop env x,aop env i with
  | some a,some b=>UX P t a b
  | _,_=>none
 | .index t x i=>match aop env x,aop env i with
  | some a,some b=>aindex P t a b
  | _,_=>none
 | .slice t x lo hi none=>match aop env x with
  | some a=>aslice P t a lo hi env
  | none=>none
 | .slice t x lo (some hi) (some mx)=>match aop env x,aop env mx with
  | some (.lst e k _ xs),some (.int _ m)=>match JB P t with
   | some (_,k')=>match A0 k k',aoptInt env 0 lo,aop env hi with
    | true,some l,some (.int _ h)=>if 0≤l∧l≤h∧h≤m∧m≤xs.length then some (.lst e k none ((xs.take h.toNat).drop l.toNat)) else none
    | _,_,_=>none
   | none=>none
  | _,_=>none
 | .makeFunc (.func f) first caps=>match A0 first.size 0,optAll (caps.toList.map (aop env)) with
  | true,some l=>match l.all (fun x=>match x with | .ptr _=>true | _=>false) with
   | true=>some (.clo f l)
   | false=>match l.all (fun x=>match x with | .ptr _=>true | .pb _ 0=>true | _=>false) with
    | true=>some (.clb f l)
    | false=>none
  | _,_=>none
 | .extract x i=>match aop env x with
  | some (.tup vs)=>(vs[i]?).map AV.strip
  | some (.tpr id e k off m rest)=>tprAt id e k off m rest i
  | _=>none
 | .nilCheck x=>match aop env x with
  | some (.ptr y)=>some (.ptr y)
  | some (.optr b y)=>match b with
   | false=>some (.ptr y)
   | true=>none
  | some (.pb s n)=>some (.pb s n)
  | _=>none
 | .call { callee:=.builtin .len,args,argTypes }=>match args.toList,argTypes.toList with
  | [x],[t]=>match aop env x with
   | some a=>alen P t a
   | none=>none
  | _,_=>none
 | .call { callee:=.builtin .min,args,.. }=>match args.toList with
  | [x,y]=>match aop env x,aop env y with
   | some (.int k a),some (.int _ b)=>some (.int k (if b<a then b else a))
   | _,_=>none
  | _=>none
 | .call { callee:=.builtin .max,args,.. }=>match args.toList with
  | [x,y]=>match aop env x,aop env y with
   | some (.int k a),some (.int _ b)=>some (.int k (if b > a then b else a))
   | _,_=>none
  | _=>none
 | _=>none
def isEff:Op→Bool
 | .alloc _ | .box .. | .makeSlice .. | .store .. | .makeMap .. | .mapUpdate .. | .range ..=>true
 | .call { callee:=.builtin .append,.. }=>true
 | .call { callee:=.value (.func f),.. }=>qhj.any (A0 f)
 | _=>false
def isStore:Op→Bool
 | .store ..=>true
 | _=>false
def memFree:Op→Bool
 | .move _ | .assign _ | .pick .. | .binOp .. | .unOp .. | .convert .. | .fieldAddr .. | .field .. | .indexAddr .. | .index .. | .slice .. | .extract .. | .buildSlice .. | .build ..=>true
 | .call { callee:=.builtin .len,.. } | .call { callee:=.builtin .min,.. } | .call { callee:=.builtin .max,.. }=>true
 | _=>false
def eput (n:Nat) (d:Option Nat) (v:AV) (env:Env):Option Env :=
 match d with
 | none=>some env
 | some t=>match A1 t n && (match look env t with | some (.box _)=>false | some (.obj ..)=>false | some (.hob ..)=>false | some (.bxg _)=>false | _=>true) with
  | true=>some (ins t v env)
  | false=>none
def AV.cref (t:Nat):AV→Bool
 | .sb s _ _ _ _=>A0 s t
 | .mb _ s=>A0 s t
 | _=>false
def AV.refs (t:Nat):AV→Bool
 | .pb s _=>A0 s t
 | .sb s _ _ _ _=>A0 s t
 | .pe s _ _ _=>A0 s t
 | .tpr s _ _ _ _ _=>A0 s t
 | .mb _ s=>A0 s t
 | .bxg cs=>cs.any (AV.cref t)
 | .agr cs=>cs.any (AV.cref t)
 | .clb _ caps=>caps.any fun c=>match c with | .pb s _=>A0 s t | _=>false
 | _=>false
def clearOf (t:Nat) (env:Env):Bool:=env.all fun p=>!A0 p.1 t && !p.2.refs t
def killC (t:Nat) (c:AV):AV:=match c.cref t with
 | true=>.top
 | false=>c
def killRef (t:Nat) (x:AV):AV:=match x.refs t with
 | true=>match x with
  | .bxg cs=>.bxg (cs.map (killC t))
  | .agr cs=>.agr (cs.map (killC t))
  | _=>.top
 | false=>x
def forget (t:Nat) (env:Env):Env:=(env.filter fun p=>!A0 p.1 t).map fun p=>(p.1,killRef t p.2)
def putCell (s:Nat) (env:Env) (off:Nat) (v:AV):Option Env :=
 match v.one with
 | false=>none
 | true=>match look env s with
  | some (.box cs)=>match A1 off cs.length with
   | true=>some (ins s (.box (cs.set off v)) env)
   | false=>none
  | some (.hob 3 ks cs)=>match A1 off cs.length with
   | true=>some (ins s (.hob 3 ks (cs.set off v.strip)) env)
   | false=>none
  | _=>none
def putRow (s:Nat) (env:Env) (off:Nat) (vs:List AV):Option Env :=
 match vs.all AV.one with
 | false=>none
 | true=>match look env s with
  | some (.box cs)=>match A2 (off+vs.length) cs.length with
   | true=>some (ins s (.box (cs.take off++vs.map AV.strip++cs.drop (off+vs.length))) env)
   | false=>none
  | some (.hob 3 ks cs)=>match A2 (off+vs.length) cs.length with
   | true=>some (ins s (.hob 3 ks (cs.take off++vs.map AV.strip++cs.drop (off+vs.length))) env)
   | false=>none
  | _=>none
def AV.cellOk:AV→Bool
 | .sb id _ _ _ _=>A2 1000000 id
 | .mb 0 id=>A2 1000000 id
 | x=>x.one
def putG (s:Nat) (env:Env) (off:Nat) (v:AV):Option Env :=
 match v.cellOk with
 | false=>none
 | true=>match look env s with
  | some (.box cs)=>match A1 off cs.length with
   | true=>some (ins s (.bxg ((cs.map AV.strip).set off v.strip)) env)
   | false=>none
  | some (.bxg cs)=>match A1 off cs.length with
   | true=>some (ins s (.bxg (cs.set off v.strip)) env)
   | false=>none
  | _=>none
def putElem (y:AV) (off:Nat) (vs:List AV):Option AV :=
 match vs.all AV.one && A2 (off+vs.length) y.cells.length with
 | false=>none
 | true=>match y with
  | .agg cs=>some (.agg (cs.take off++vs.map AV.strip++cs.drop (off+vs.length)))
  | _=>match vs with
   | [v]=>some v.strip
   | _=>none
def putObj (id k j:Nat) (env:Env) (off:Nat) (vs:List AV):Option Env :=
 match look env id with
 | some (.obj e k' xs)=>match A0 k k' with
  | true=>match xs[j]? with
   | some y=>match putElem y off vs with
    | some y'=>some (ins id (.obj e k (xs.set j y')) env)
    | none=>none
   | none=>none
  | false=>none
 | _=>none
def elemOf:List AV→Nat→AV
 | [x],1=>x
 | cs,_=>.agg cs
def content (env:Env):AV→Option (Nat×List AV)
 | .lst _ k _ xs=>some (k,xs)
 | .sb id _ k off n=>match look env id with
  | some (.obj _ k' xs)=>match A0 k k' with
   | true=>some (k,snapA off n xs)
   | false=>none
  | _=>none
 | _=>none
def fresh (d:Option Nat) (v:AV) (env:Env):AV :=
 match v,d with
 | .lst e k none xs,some t=>match labIn t env with
  | true=>.lst e k none xs
  | false=>.lst e k (some t) xs
 | x,_=>x
def aappend (P:Program) (t t':TypeId) (d:Nat) (x y:AV) (env:Env):Option (AV×Env) :=
 match JB P t with
 | some (e,s)=>match A0 t t' && A1 0 s && (match (P.info? e).bind (·.zero) with | some z=>A0 z.cells.size s | none=>false) with
  | false=>none
  | true=>match y with
   | .nils=>none
   | .lst ey ky _ ys=>match A0 ky s with
    | false=>none
    | true=>match x with
     | .nils=>if ys.length * ((P.info? e).map (·.bytes)).getD 0≤140737488355328∧ys.length≤140737488355328 then some (.lst e s (some d) ys,relabE d none env) else none
     | .lst ex kx (some c) xs=>match A0 ex e && A0 kx s with
      | false=>none
      | true=>if (xs.length+ys.length) * ((P.info? e).map (·.bytes)).getD 0≤140737488355328∧xs.length+ys.length≤140737488355328 then some (.lst e s (some d) (xs++ys),relabE d none (relabE c none env)) else none
     | _=>none
   | _=>none
 | _=>none
def usable (id:Nat):Bool:=A1 id 2000000 || A2 3000000 id
def ZE (P:Program) (n:Nat) (t t':TypeId) (d:Nat) (x y:AV) (env:Env):Option Env :=
 match JB P t with
 | some (e,s)=>match A0 t t' && A1 0 s && (match (P.info? e).bind (·.zero) with | some z=>A0 z.cells.size s | none=>false) with
  | false=>none
  | true=>match x with
   | .sb id ex kx off m=>match look env id,content env y with
    | some (.obj e' k' xs),some (ky,ys)=>match A0 ex e && A0 e' e && A0 kx s && A0 k' s && A0 ky s && A0 off 0 && (usable id && A1 e 1000000000) with
     | true=>match clearOf (1000000+d) (forget id env) && (match look env d with | some (.box _)=>false | some (.obj ..)=>false | some (.hob ..)=>false | some (.bxg _)=>false | _=>true) && A1 d n with
      | true=>if (m+ys.length) * ((P.info? e).map (·.bytes)).getD 0≤140737488355328∧m+ys.length≤140737488355328 then
        some (ins (1000000+d) (.obj e s (snapA 0 m xs++ys)) (ins d (.sb (1000000+d) e s 0 (snapA 0 m xs++ys).length) (forget id env)))
       else none
      | false=>none
     | false=>none
    | _,_=>none
   | _=>none
 | _=>none
def astep (P:Program) (n:Nat) (o:Oper) (env:Env):Option Env :=
 match o.op with
 | .alloc t=>match o.dst with
  | some d=>match clearOf d env,Yt P t with
   | true,some z=>match z.all AV.one with
    | true=>eput n o.dst (.box z) env
    | false=>none
   | _,_=>none
  | none=>none
 | .box t x=>match o.dst,aop env x with
  | some d,some (.agr cs)=>match clearOf d env && cs.all AV.one && !cs.isEmpty with
   | true=>eput n o.dst (.box cs) env
   | false=>match clearOf d env && cs.all AV.cellOk && !cs.isEmpty with
    | true=>eput n o.dst (.bxg (cs.map AV.strip1)) env
    | false=>none
  | some d,some v=>match clearOf d env && v.cells.all AV.one && !v.cells.isEmpty with
   | true=>eput n o.dst (.box (v.cells.map AV.strip)) env
   | false=>none
  | _,_=>none
 | .store t p x=>match o.dst,aop env p,aop env x,tSize P t with
  | none,some (.pb s off),some v,some sz=>match A0 v.cells.length sz with
   | true=>match v with
    | .agg cs=>putRow s env off cs
    | .sb id e k o m=>putG s env off (.sb id e k o m)
    | .mb kd id=>putG s env off (.mb kd id)
    | x=>match look env s with
     | some (.bxg _)=>putG s env off x
     | _=>putCell s env off x
   | false=>none
  | none,some (.pe id k j off),some v,some sz=>match A0 v.cells.length sz with
   | true=>putObj id k j env off v.cells
   | false=>none
  | _,_,_,_=>none
 | .makeSlice t l c=>match o.dst,aop env l,aop env c,JB P t with
  | some d,some (.int _ m),some (.int _ m'),some (e,s)=>match Yt P e,clearOf (1000000+d) env && A1 0 s with
   | some z,true=>match A0 z.length s && z.all AV.one with
    | true=>if m=m'∧0≤m∧m * ((P.info? e).map (·.bytes)).getD 0≤281474976710656∧m≤9223372036854775807 then
      (eput n o.dst (.sb (1000000+d) e s 0 m.toNat) env).map fun env1=>ins (1000000+d) (.obj e s (List.replicate m.toNat (elemOf z s))) env1
     else none
    | false=>none
   | _,_=>none
  | _,_,_,_=>none
 | .call { callee:=.builtin .append,args,argTypes }=>match args.toList,argTypes.toList,o.dst with
  | [x,y],[t,t'],some d=>match aop env x,aop env y with
   | some (.sb id ex kx off m),some b=>ZE P n t t' d (.sb id ex kx off m) b env
   | some a,some b=>match aappend P t t' d a b env with
    | some (v,env1)=>eput n o.dst v env1
    | none=>none
   | _,_=>none
  | _,_,_=>none
 | .buildSlice ..=>match apure P o env with
  | some v=>eput n o.dst (fresh o.dst v env) env
  | none=>none
 | .makeMap t none=>match o.dst,Xe P t with
  | some d,some _=>match clearOf (1000000+d) env with
   | true=>(eput n o.dst (.mb 0 (1000000+d)) env).map fun env1=>ins (1000000+d) (.hob 0 [] []) env1
   | false=>none
  | _,_=>none
 | .mapUpdate t m k v=>match o.dst,aop env m,aop env k,aop env v,Xe P t with
  | none,some (.mb 0 id),some k,some v,some (kt,e)=>match look env id with
   | some (.hob 0 ks vs)=>match keyFits P kt k && k.keyV.isSome && ks.all (keyFits P kt) && v.mapElem && A1 ks.length 1000000000 with
    | true=>match findA k ks with
     | some j=>some (ins id (.hob 0 ks (vs.set j v.strip)) env)
     | none=>some (ins id (.hob 0 (ks++[k]) (vs++[v.strip])) env)
    | false=>none
   | _=>none
  | _,_,_,_,_=>none
 | .range t x=>match o.dst,aop env x,Xe P t with
  | some d,some (.mpv ks vs),some _=>match clearOf (1000000+d) env with
   | true=>(eput n o.dst (.mb 1 (1000000+d)) env).map fun env1=>ins (1000000+d) (.hob 1 ks vs) env1
   | false=>none
  | _,_,_=>none
 | _=>match apure P o env with
  | some v=>eput n o.dst v env
  | none=>none
def AV.scalar:AV→Bool
 | .int .. | .bool _ | .str _=>true
 | _=>false
def arow (P:Program) (n:Nat) (o:Oper) (env:Env):Option Env :=
 match o.op with
 | .buildSlice ..=>match o.dst,apure P o env with
  | some d,some (.lst e k none xs)=>match clearOf (1000000+d) env && A1 0 k && xs.all (fun x=>A0 x.cells.length k && x.cells.all AV.scalar) with
   | true=>(eput n o.dst (.sb (1000000+d) e k 0 xs.length) env).map fun env1=>ins (1000000+d) (.obj e k xs) env1
   | false=>none
  | _,_=>none
 | _=>none
def aagr (P:Program) (n:Nat) (o:Oper) (env:Env):Option Env :=
 match o.op with
 | .build t ps=>match o.dst,parts? env ps with
  | some d,some l=>match abuildG P t l with
   | some v=>eput n o.dst v env
   | none=>none
  | _,_=>none
 | _=>none
def notBox (x:AV):Bool:=!x.ent
def astepD (P:Program) (n:Nat) (o:Oper) (env:Env):Option Env :=
 match isEff o.op with
 | true=>astep P n o env
 | false=>match apure P o env with
  | some v=>match notBox v with
   | true=>eput n o.dst v env
   | false=>none
  | none=>none
def acallee (P:Program) (o:Oper) (env:Env):Option (Nat×List AV) :=
 match o.op with
 | .call { callee:=.value f,args,.. }=>match aop env f,optAll (args.toList.map (aop env)) with
  | some (.clo g caps),some l=>match P.funcs[g]? with
   | some fn => match fn.name != "runtime.NumGoroutine" && fn.body.isSome && l.all (fun x => match x with | .box _ | .pb .. | .sb .. | .pe .. | .obj .. | .tpr .. | .hob .. | .mb .. | .bxg _ | .slf | .agr _ | .clb .. => false | _ => true) with
    | true=>some (g,l.map AV.strip++caps)
    | false=>none
   | none=>none
  | _,_=>none
 | _=>none
def asnapC (env:Env) (x:AV):Option AV:=match x with
 | .mb 0 id=>match look env id with
  | some (.hob 0 ks vs)=>some (.mpv ks vs)
  | _=>none
 | .sb id e k off n=>match look env id with
  | some (.obj _ k' xs)=>match A0 k k' with
   | true=>some (.lst e k none (snapA off n xs))
   | false=>none
  | _=>none
 | x=>match x.one with
  | true=>some x.strip
  | false=>none
def asnapP (env:Env) (x:AV):Option AV:=match x with
 | .ptr y=>some (.ptr y)
 | .pb s 0=>match look env s with
  | some (.box [c])=>some (.ptr c.strip)
  | some (.box cs)=>some (.ptr (.agg (cs.map AV.strip)))
  | some (.bxg cs)=>match optAll (cs.map (asnapC env)) with
   | some [c]=>some (.ptr c)
   | some l=>some (.ptr (.agg l))
   | none=>none
  | _=>none
 | _=>none
def asnap (env:Env) (x:AV):Option AV:=match x with
 | .mb 0 id=>match look env id with
  | some (.hob 0 ks vs)=>some (.mpv ks vs)
  | _=>none
 | .clb f caps=>match optAll (caps.map (asnapP env)) with
  | some l=>some (.clo f l)
  | none=>none
 | .sb id e k off n=>match look env id with
  | some (.obj _ k' xs)=>match A0 k k' with
   | true=>some (.lst e k none (snapA off n xs))
   | false=>none
  | _=>none
 | .pb s o=>asnapP env (.pb s o)
 | .box _ | .pe .. | .obj .. | .tpr .. | .hob .. | .mb .. | .bxg _ | .slf=>none
 | .agr cs=>match optAll (cs.map (asnapC env)) with
  | some l=>some (.agg l)
  | none=>none
 | x=>some x.strip
def Xs (P:Program) (o:Oper) (env:Env):Option (Nat×List AV) :=
 match o.op with
 | .call { callee:=.value f,args,.. }=>match aop env f,optAll (args.toList.map (aop env)) with
  | some (.clo g caps),some l=>match P.funcs[g]? with
   | some fn => match fn.name != "runtime.NumGoroutine" && fn.body.isSome, optAll (l.map (asnap env)) with
    | true,some l'=>some (g,l'++caps)
    | _,_=>none
   | none=>none
  | _,_=>none
 | _=>none
def AV.plain:AV→Bool
 | .int .. | .bool _ | .str _=>true
 | .agg cs=>cs.all fun c=>match c with | .int .. | .bool _ | .str _=>true | _=>false
 | .tup cs=>cs.all fun c=>match c with | .int .. | .bool _ | .str _=>true | _=>false
 | _=>false
def awanted (ops:List Oper) (o:Oper) (env:Env):Option Bool :=
 match o.guard with
 | none=>some true
 | some (j,want)=>match (ops[j]?).bind (·.dst) with
  | none=>none
  | some t=>match look env t with
   | some (.bool b)=>some (b == want)
   | some .und=>some false
   | _=>none
inductive Ex where
 | normal
 | exit (id:Nat)
 | ret
def Ex.unblock (id:Nat):Ex→Ex
 | .exit i=>match A0 i id with
  | true=>.normal
  | false=>.exit i
 | e=>e
def thawC (s k:Nat) (xs:List AV):AV→AV
 | .sb id e k' off n=>match A0 id s with
  | true=>match A0 k' k with
   | true=>.lst e k none (snapA off n xs)
   | false=>.top
  | false=>.sb id e k' off n
 | x=>killC s x
def thaw (s k:Nat) (xs:List AV):AV→AV
 | .sb id e k' off n=>match A0 id s with
  | true=>match A0 k' k with
   | true=>.lst e k none (snapA off n xs)
   | false=>.top
  | false=>.sb id e k' off n
 | .pe id k' j o=>match A0 id s with
  | true=>.top
  | false=>.pe id k' j o
 | .pb id o=>match A0 id s with
  | true=>.top
  | false=>.pb id o
 | .tpr id e k' off n rest=>match A0 id s with
  | true=>.top
  | false=>.tpr id e k' off n rest
 | .mb kd id=>match A0 id s with
  | true=>.top
  | false=>.mb kd id
 | .bxg cs=>.bxg (cs.map (thawC s k xs))
 | .agr cs=>.agr (cs.map (thawC s k xs))
 | .clb f caps=>match (AV.clb f caps).refs s with
  | true=>.top
  | false=>.clb f caps
 | x=>x
def thawCM (s:Nat) (ks vs:List AV):AV→AV
 | .mb kd id=>match A0 id s with
  | true=>match kd with
   | 0=>.mpv ks vs
   | _=>.top
  | false=>.mb kd id
 | x=>killC s x
def thawM (s:Nat) (ks vs:List AV):AV→AV
 | .mb kd id=>match A0 id s with
  | true=>match kd with
   | 0=>.mpv ks vs
   | _=>.top
  | false=>.mb kd id
 | .bxg cs=>.bxg (cs.map (thawCM s ks vs))
 | .agr cs=>.agr (cs.map (thawCM s ks vs))
 | x=>killRef s x
def frzRef (s:Nat) (y:AV):AV→AV
 | .pb t o=>match A0 t s with
  | true=>match o with
   | 0=>.ptr y
   | _=>.top
  | false=>.pb t o
 | x=>killRef s x
def freeze1 (env:Env) (s:Nat):Env :=
 match look env s with
 | some (.box cs)=>match A1 s 1000000 with
  | false=>env
  | true=>match cs with
  | [x]=>ins s (.ptr x.strip) (env.map fun p=>(p.1,frzRef s x.strip p.2))
  | cs=>ins s (.ptr (.agg (cs.map AV.strip))) (env.map fun p=>(p.1,frzRef s (.agg (cs.map AV.strip)) p.2))
 | some (.obj e k xs)=>match usable s with
  | true=>(env.filter fun p=>!A0 p.1 s).map fun p=>(p.1,thaw s k xs p.2)
  | false=>env
 | some (.hob 0 ks vs)=>match usable s with
  | true=>(env.filter fun p=>!A0 p.1 s).map fun p=>(p.1,thawM s ks vs p.2)
  | false=>env
 | _=>env
def Zm (env:Env):List Nat→Env
 | []=>env
 | s::r=>Zm (freeze1 env s) r
def nilTo (env:Env) (q:Nat×Nat×Nat×Nat×Nat):Env :=
 match look env q.1 with
 | some .nils=>ins q.1 (.lst q.2.2.1 q.2.2.2.1 (some q.2.2.2.2) []) env
 | some (.box cs)=>match cs[q.2.1]? with
  | some .nils=>ins q.1 (.box (cs.set q.2.1 (.lst q.2.2.1 q.2.2.2.1 (some q.2.2.2.2) []))) env
  | _=>env
 | _=>env
def nilObj (env:Env) (q:Nat×Nat×Nat×Nat):Env :=
 match look env q.1,clearOf q.2.2.2 env && A2 1000000 q.2.2.2 && A1 q.2.2.2 2000000 && A1 0 q.2.2.1 with
 | some .nils,true=>ins q.2.2.2 (.obj q.2.1 q.2.2.1 []) (ins q.1 (.sb q.2.2.2 q.2.1 q.2.2.1 0 0) env)
 | _,_=>env
def renC (s s':Nat):AV→AV
 | .sb t e k off n=>match A0 t s with
  | true=>.sb s' e k off n
  | false=>.sb t e k off n
 | x=>killC s x
def renId (s s':Nat):AV→AV
 | .pb t o=>match A0 t s with
  | true=>.pb s' o
  | false=>.pb t o
 | .sb t e k off n=>match A0 t s with
  | true=>.sb s' e k off n
  | false=>.sb t e k off n
 | .pe t k j o=>match A0 t s with
  | true=>.pe s' k j o
  | false=>.pe t k j o
 | .tpr t e k off n rest=>match A0 t s with
  | true=>.top
  | false=>.tpr t e k off n rest
 | .mb kd t=>match A0 t s with
  | true=>.top
  | false=>.mb kd t
 | .bxg cs=>.bxg (cs.map (renC s s'))
 | .agr cs=>.agr (cs.map (renC s s'))
 | .clb f caps=>match (AV.clb f caps).refs s with
  | true=>.top
  | false=>.clb f caps
 | x=>x
def renObj (env:Env) (q:Nat×Nat):Env :=
 match look env q.1,clearOf q.2 env && A2 1000000 q.1 && A1 q.1 2000000 && A2 1000000 q.2 && A1 q.2 2000000 with
 | some (.obj e k xs),true=>ins q.2 (.obj e k xs) ((env.filter fun p=>!A0 p.1 q.1).map fun p=>(p.1,renId q.1 q.2 p.2))
 | _,_=>env
def trimObj (env:Env) (q:Nat×Nat):Env :=
 match look env q.1,look env q.2,usable q.2 with
 | some (.sb id e k 0 n),some (.obj e' k' xs),true=>match A0 id q.2 && A0 k k' with
  | true=>ins q.2 (.obj e' k' (snapA 0 n xs)) (ins q.1 (.sb id e k 0 (snapA 0 n xs).length) (forget q.2 env))
  | false=>env
 | _,_,_=>env
def slfCell (env:Env) (s off:Nat):Env :=
 match look env s with
 | some (.bxg cs)=>match cs[off]? with
  | some (.optr true _)=>ins s (.bxg (cs.set off .slf)) env
  | _=>env
 | _=>env
def arrBox (env:Env) (d:Nat):Env :=
 match look env d,clearOf (1000000+d) env && A1 d 1000000 with
 | some (.box cs),true=>ins d (.pb (1000000+d) 0) (ins (1000000+d) (.hob 3 [] (cs.map AV.strip)) (forget d env))
 | _,_=>env
inductive Mv where
 | nil (t e k id:Nat)
 | ren (id id':Nat)
 | trim (t id:Nat)
 | frz (id:Nat)
 | slf (s off:Nat)
 | arr (s:Nat)
def mvObj (env:Env):Mv→Env
 | .nil t e k id=>nilObj env (t,e,k,id)
 | .ren id id'=>renObj env (id,id')
 | .trim t id=>trimObj env (t,id)
 | .frz id=>freeze1 env id
 | .slf s off=>slfCell env s off
 | .arr s=>arrBox env s
def mvAll (env:Env):List Mv→Env
 | []=>env
 | q::r=>mvAll (mvObj env q) r
def nilAll (env:Env):List (Nat×Nat×Nat×Nat×Nat)→Env
 | []=>env
 | q::r=>nilAll (nilTo env q) r
def relab1 (env:Env) (q:Nat×Option Nat):Env :=
 match q.2 with
 | none=>relabE q.1 none env
 | some c=>match A0 c q.1 || labIn c env with
  | true=>env
  | false=>relabE q.1 (some c) env
def Zv (env:Env):List (Nat×Option Nat)→Env
 | []=>env
 | q::r=>Zv (relab1 env q) r
def weakE (keep frz:List Nat) (nl:List (Nat×Nat×Nat×Nat×Nat)) (rl:List (Nat×Option Nat)) (env:Env):Env :=
 Zv (dropE keep (nilAll (Zm env frz) nl)) rl
def namesOf (ops:Array Oper) (o:Oper):List Nat :=
 o.dst.toList++(o.op.operands.toList.filterMap fun | .tmp t=>some t | _=>none) ++
 (match o.guard with
  | some (g,_)=>((ops[g]?).bind (·.dst)).toList
  | none=>[])
def orderOk (ops:Array Oper):Bool :=
 let b:=A3 ops
 (A4 ops.size).all fun j=>(A4 j).all fun i =>
  (b.getD j 0).testBit i ||
  match ops[i]?,ops[j]? with
  | some x,some y=>((!isEff x.op && !isEff y.op) || (isStore x.op && memFree y.op) || (memFree x.op && isStore y.op)) && (match x.dst with | some d=>!(namesOf ops y).any (A0 d) | none=>true) && (match y.dst with | some d=>!(namesOf ops x).any (A0 d) | none=>true)
  | _,_=>false
def nodupB:List Nat→Bool
 | []=>true
 | x::r=>!r.any (A0 x) && nodupB r
def isMk:Op→Bool
 | .makeSlice ..=>true
 | _=>false
def isApp:Op→Bool
 | .call { callee:=.builtin .append,.. }=>true
 | _=>false
def isMv:Op→Bool
 | .move _=>true
 | _=>false
def plainV:Option AV→Bool
 | some (.lst _ _ (some _) _)=>false
 | some (.box _)=>false
 | some (.agr _)=>false
 | _=>true
def lfOk (all:List Oper) (o:Oper) (env:Env):Bool:=match o.op with
 | .call { callee:=.builtin .append,args,.. } =>
  all.zipIdx.all fun q=>(match q.1.dst,o.dst with | some a,some b=>!A0 a b | _,_=>true) || all.zipIdx.all fun p=>A0 p.2 q.2 || (((A3 all.toArray).getD q.2 0).testBit p.2 || (((A3 all.toArray).getD p.2 0).testBit q.2 || (isMv p.1.op && ((match args.toList with
   | x::_=>match aop env x with
    | some (.sb ..)=>false
    | _=>true
   | []=>false) && (namesOf all.toArray p.1).all fun t=>plainV (look env t)))))
 | _=>true
def astepDA (P:Program) (n:Nat) (all:List Oper) (o:Oper) (env:Env):Option Env :=
 match lfOk all o env with
 | true=>astepD P n o env
 | false=>none
def jS (ops:Array Oper):Bool :=
 ops.toList.zipIdx.all fun p=>p.1.after.all fun e=>!Region.binds .any e || A1 e.on p.2
def argsEnv:Nat→List AV→Env
 | _,[]=>[]
 | i,v::r=>(i,v)::argsEnv (i+1) r
def aresult (P:Program) (env:Env):ResultVar→Option AV
 | .tmp t=>match look env t with
  | some (.box _)=>none
  | some (.pb ..)=>none
  | some (.sb ..)=>none
  | some (.pe ..)=>none
  | some (.obj ..)=>none
  | some (.tpr ..)=>none
  | some (.hob ..)=>none
  | some (.mb ..)=>none
  | some (.bxg _)=>none
  | some .slf=>none
  | some (.agr _)=>none
  | some (.clb ..)=>none
  | some v=>some v
  | none=>none
 | .cell a t=>match look env a,A1 a 1000000 with
  | some (.box cs),true=>(cut P t cs 0).map AV.strip
  | some (.pb s 0),true=>match look env s with
   | some (.hob 3 _ cs)=>(cut P t cs 0).map AV.strip
   | _=>none
  | _,_=>none
def QT (P:Program) (fn:Func) (env:Env):Option AV :=
 match fn.results.toList with
 | [r]=>aresult P env r
 | rs=>match optAll (rs.map (aresult P env)) with
  | some l=>some (.tup (l.map AV.strip))
  | none=>none
def Ux (P:Program) (fn:Func) (env:Env):Option AV :=
 match fn.results.toList with
 | [.tmp t]=>match look env t with
  | some (.sb id e k off n)=>some (.sb id e k off n)
  | _=>QT P fn env
 | .tmp t::r::rs=>match look env t,optAll ((r::rs).map (aresult P env)) with
  | some (.sb id e k off n),some l=>some (.tpr id e k off n (l.map AV.strip))
  | _,_=>QT P fn env
 | _=>QT P fn env
def ents:Env→Env
 | []=>[]
 | (t,x)::r=>match x.ent && A2 1000000 t with
  | true=>(t,x)::ents r
  | false=>(ents r).filter fun p=>!A0 p.1 t
def hpOk (hp:Env):Bool:=hp.all fun p=>p.2.ent && A2 2000000 p.1
def pairOf (a:Nat):List (Nat×Nat)→Option Nat
 | []=>none
 | (x,y)::r=>match A0 x a with
  | true=>some y
  | false=>pairOf a r
def renArg (ρ:List (Nat×Nat)) (x:AV):Option AV:=match x with
 | .sb id e k off n=>match pairOf id ρ with
  | some b=>some (.sb b e k off n)
  | none=>none
 | .pb id o=>match pairOf id ρ with
  | some b=>some (.pb b o)
  | none=>none
 | .mb 0 id=>match pairOf id ρ with
  | some b=>some (.mb 0 b)
  | none=>none
 | .box _ | .pe .. | .obj .. | .tpr .. | .hob .. | .mb .. | .bxg _ | .slf | .agr _ | .clb ..=>none
 | x=>some x.strip
def AV.noLabs:AV→Bool
 | .box cs=>cs.all fun c=>match c.lab? with | none=>true | some _=>false
 | _=>true
def renCell (ρ:List (Nat×Nat)):AV→AV
 | .sb id e k off n=>match pairOf id ρ with
  | some b=>.sb b e k off n
  | none=>.top
 | .mb kd id=>match pairOf id ρ with
  | some b=>.mb kd b
  | none=>.top
 | c=>c
def renE (ρ:List (Nat×Nat)):AV→AV
 | .bxg cs=>.bxg (cs.map (renCell ρ))
 | x=>x
def hpOf (ρ:List (Nat×Nat)) (env:Env):List (Nat×Nat)→Option Env
 | []=>some []
 | (a,b)::r=>match look env a,hpOf ρ env r with
  | some x,some l=>match x.ent && x.noLabs with
   | true=>some ((b,renE ρ x)::l)
   | false=>none
  | _,_=>none
def NJ (P:Program) (o:Oper) (env:Env) (ρ:List (Nat×Nat)):Option (Nat×List AV×Env) :=
 match o.op with
 | .call { callee:=.value f,args,.. }=>match aop env f,optAll (args.toList.map (aop env)) with
  | some (.clo g caps),some l=>match P.funcs[g]? with
   | some fn => match fn.name != "runtime.NumGoroutine" && fn.body.isSome && nodupB (ρ.map (·.1)) && nodupB (ρ.map (·.2)) && ρ.all (fun p => A2 2000000 p.2 && (usable p.1 || !usable p.2)), optAll (l.map (renArg ρ)), hpOf ρ env ρ with
    | true,some l',some hp=>some (g,l'++caps,hp)
    | _,_,_=>none
   | none=>none
  | _,_=>none
 | _=>none
def putM (σ:List (Nat×Nat)) (hp:Env):List (Nat×Nat)→Env→Env
 | [],env=>env
 | (a,b)::r,env=>putM σ hp r (match look hp b with
  | some x=>ins a (renE σ x) env
  | none=>forget a env)
def backOf (hp:Env) (ρ:List (Nat×Nat)):List (Nat×Nat):=(ρ.map fun p=>(p.2,p.1)).filter fun p=>(look hp p.1).isSome
def boxBox:Option AV→AV→Bool
 | some (.box _),.box _=>true
 | some (.box _),.bxg _=>true
 | some (.bxg _),.box _=>true
 | some (.bxg _),.bxg _=>true
 | _,_=>false
def renRes (hp:Env) (ρ:List (Nat×Nat)) (x:AV):Option AV:=match x with
 | .sb id e k off n=>match pairOf id (ρ.map fun p=>(p.2,p.1)),look hp id with
  | some a,some _=>some (.sb a e k off n)
  | _,_=>none
 | .tpr id e k off n rest=>match pairOf id (ρ.map fun p=>(p.2,p.1)),look hp id with
  | some a,some _=>some (.tpr a e k off n rest)
  | _,_=>none
 | .pb .. | .box _ | .pe .. | .obj .. | .hob .. | .mb .. | .bxg _ | .slf | .agr _ | .clb ..=>none
 | x=>some x.strip
def Uc (n:Nat) (d:Option Nat) (ρ nw:List (Nat×Nat)) (r:AV) (hp:Env) (env:Env):Option Env :=
 match nodupB ((ρ++nw).map (·.1)) && nodupB ((ρ++nw).map (·.2)) && ρ.all (fun p=>match look hp p.2 with | some x=>!usable p.2 && x.noLabs && (A2 1000000 p.1 || boxBox (look env p.1) x) | none=>usable p.2) && nw.all (fun p=>clearOf p.1 env && A2 1000000 p.1 && A1 p.1 2000000 && (match look hp p.2 with | some x=>x.noLabs | none=>false)),renRes hp (ρ++nw) r with
 | true,some r'=>eput n d r' (putM (backOf hp (ρ++nw)) hp (ρ++nw) env)
 | _,_=>none
def callPut (n:Nat) (draw:Bool) (d:Option Nat) (r:AV) (env:Env):Option Env :=
 match draw with
 | true=>match notBox r.strip with
  | true=>eput n d r.strip env
  | false=>none
 | false=>match r.lab? with
  | some _=>eput n d (fresh d r.strip env) env
  | none=>eput n d r.strip env
def AV.val:AV→Option Value
 | .int k n=>some (.int k n)
 | .bool b=>some (.bool b)
 | .str s=>some (.string s)
 | _=>none
def GlobW (w:World):Prop:=∀ g,g∈globs→∃ m,w.cell? ⟨g,0,none⟩=some (.int .i64 m)
def Known (P:Program) (f:Nat) (vs:List Value) (rv:Value):Prop :=
 ∀ w,GlobW w→Calls P f vs.toArray w fun e w'=>e=.returned rv∧RowKit.Below w.heap.size w w'
def killsB (o:Oper):List Nat :=
 match o.op with
 | .call { callee:=.builtin .append,args,.. }=>match args.toList,o.dst with
  | .tmp t::_,some d=>[t,d]
  | _,some d=>[d]
  | _,_=>[]
 | .buildSlice ..=>o.dst.toList
 | _=>[]
def notIn (c:Nat) (l:List Nat):Bool:=!l.any (A0 c)
def isDst (o:Oper) (c:Nat):Bool:=match o.dst with
 | some d=>A0 d c
 | none=>false
def pairB (ops:Array Oper) (x y:Oper) (ord:Bool):Bool :=
 (killsB x).all (fun c=>isDst x c || notIn c (namesOf ops y)) &&
 (ord || ((match x.dst with | some d=>notIn d (namesOf ops y) | none=>true) && (match y.dst with | some d=>notIn d (namesOf ops x) | none=>true) &&
  (killsB x).all (fun c=>notIn c (namesOf ops y)) && (killsB y).all (fun c=>notIn c (namesOf ops x))))
def orderB (ops:Array Oper):Bool :=
 let b:=A3 ops
 nodupB (ops.toList.filterMap (·.dst)) &&
 (A4 ops.size).all fun j=>(A4 j).all fun i =>
  match ops[i]?,ops[j]? with
  | some x,some y=>pairB ops x y ((b.getD j 0).testBit i)
  | _,_=>false
def banOk (ops:List Oper) (env:Env):Bool:=(ops.flatMap killsB).all fun b=>!labIn b env
def deadB (ops:List Oper):List Nat:=ops.flatMap fun o=>(killsB o).filter fun c=>!isDst o c
def dropB (ops:List Oper) (env:Env):Env:=env.filter fun p=>notIn p.1 (deadB ops)
def astepB (P:Program) (n:Nat) (o:Oper) (env:Env):Option Env :=
 match o.op with
 | .call { callee:=.builtin .append,args,argTypes }=>match args.toList,argTypes.toList,o.dst with
  | [.tmp x,.tmp y],[t,t'],some d=>match aop env (.tmp x),aop env (.tmp y) with
   | some (.lst ex kx (some c) xs),some b=>match A0 c x && !A0 x d && !A0 y d with
    | true=>match aappend P t t' d (.lst ex kx (some c) xs) b env with
     | some (v,env1)=>eput n o.dst v env1
     | none=>none
    | false=>none
   | _,_=>none
  | _,_,_=>none
 | .buildSlice ..=>match o.dst,apure P o env with
  | some d,some (.lst e k none xs)=>eput n o.dst (.lst e k (some d) xs) (relabE d none env)
  | _,_=>none
 | _=>match o.dst,apure P o env with
  | some d,some v=>match memFree o.op && notBox v with
   | true=>eput n o.dst v.strip env
   | false=>none
  | _,_=>none
def sortI (zs:List Int):List Int:=zs.mergeSort fun x y=>decide (x≤y)
def qbJ (P:Program) (f e:Nat):Prop :=
 ∀ (zs:List Int) (w:World) (g cap:Nat) (cur:Array Value),w.heap[g]? = some (.cells cur e (0,0))→zs.length≤cur.size→zs.length<4611686018427387904→cur.toList.take zs.length=zs.map (Value.int .i64) →
  Calls P f [Value.slice (some ⟨g,0,none⟩) zs.length cap].toArray w fun ed w'=>ed=.returned (.tuple #[])∧w'.os=w.os∧w'.tape=w.tape∧w'.output=w.output∧w.heap.size≤w'.heap.size∧(∀ k,k<w.heap.size→k≠g→w'.heap[k]? = w.heap[k]?) ∧
   ∃ cur',w'.heap[g]? = some (.cells cur' e (0,0))∧cur'.size=cur.size∧cur'.toList.take zs.length=(sortI zs).map (Value.int .i64)
end Go.AM
