/- Texts joined: Icode IcItem Cut HashParts HashItem HashRef SrP. -/
import Derived.Test.YtaclhhkblbacgaaGreatJ39
import Derived.Deep.RegionHeld3
import Derived.Lib.SlBytesConst
set_option maxRecDepth 10000
set_option maxHeartbeats 8000000
namespace Go.Proofs.YtaclhhkblbacgaaGreat
open Go.RowKit Go.Proofs.Tryz
def Jx (x:It):List Int:=[x.rep,x.cnt,x.rank,x.prio,if x.dead then 1 else 0]
def Tc (x:It):List UInt8:=(Jx x).flatMap aJ++bu x.body
def Ux (x:It):List UInt8:=bu x.key++Tc x
def Vp (n lo hi:Int):Int:=max lo (min n hi)
def cut (h n:Int):Int:=h % (2:Int) ^ (Vp n 0 64).toNat
def Uy (seed:Int)(x:It):Int:=if eC x then gI seed (Ux x)else 0
def Vq (seed:Int)(l:List It):Int:=l.foldl (fun s x=>IntKind.u64.wrap (s+Uy seed x)) 0
structure Srv where
 s:Sta
 ses:Int:=0
 num:Int:=0
 hello:Msg:={}
 ans:List Bool:=[]
 bat:List (List It):=[]
 lrn:List Pc:=[]
 rep:List UInt8:=[]
def z6 (ses num e:Int):List UInt8:=(ev { kind:=6,ses:=ses,num:=num,err:=e }).1
def pv (ses num:Int)(m:Msg):List UInt8:=if(ev { m with ses:=ses,num:=num }).2=0 then(ev { m with ses:=ses,num:=num }).1 else z6 ses num (ev { m with ses:=ses,num:=num }).2
def Uz (n:Nat):DPt:=⟨0,n,⟨⟨#[]⟩,⟨#[]⟩,true⟩⟩
def Srv.its (x:Srv):List It:=Ar x.hello.flt x.s.its
def Srv.opn (x:Srv):List DPt:=if x.hello.wants then VA x.its x.ans [Uz x.its.length]else []
def Srv.fnd (x:Srv):List Rg:=if x.hello.wants then qI (VB x.its x.ans [Uz x.its.length])else []
def nd (B:List (List It))(K:List Pc)(i:Nat):Msg:=
 if(i:Int)=(B.length:Int)-1 then { kind:=5,nxt:=i,its:=(B[i]?).getD [],last:=true,know:=K }else { kind:=5,nxt:=i,its:=(B[i]?).getD [] }
def Srv.batch (x:Srv)(i:Nat):Srv:={ x with rep:=pv x.ses x.num (nd x.bat x.lrn i) }
def Srv.pln (H:List UInt8→Int→Int→Int→Bool)(x:Srv):List (List It)×List Pc×Int:=fR x.s x.hello.flt x.hello.know x.hello.lim x.fnd (H x.hello.there x.hello.seed)
def Srv.first (H:List UInt8→Int→Int→Int→Bool)(x:Srv):Srv:=
 if(x.pln H).2.2=0 then { x with bat:=(x.pln H).1,lrn:=(x.pln H).2.1 }.batch 0 else { x with rep:=z6 x.ses x.num (x.pln H).2.2 }
def VY (L:List It)(seed bits:Int)(r:Rg):Msg:={ kind:=4,rg:=r,sum:=(cut (Vq seed (L.filter fun x=>cO r x.key)) bits).toNat }
def Srv.next (H:List UInt8→Int→Int→Int→Bool)(x:Srv):Srv:=
 match x.opn with
 | p::_=>{ x with rep:=pv x.ses x.num (VY x.its x.hello.seed x.hello.bits p.r) }
 | []=>x.first H
def Srv.told (H:List UInt8→Int→Int→Int→Bool)(x:Srv)(m:Msg)(e:Int):Srv×List UInt8:=
 if e≠0∨m.kind>3∨(m.kind=1∧m.num≠0)∨m.ses<x.ses then(x,[])
 else if m.ses>x.ses then
  (if m.kind=1 then(let y:=({ s:=x.s,ses:=m.ses,hello:=m }:Srv).next H;(y,y.rep))else(x,z6 m.ses m.num 50))
 else if m.num=x.num then(x,x.rep)
 else if m.kind=1 then(x,[])
 else if m.num>x.num+1 then(x,z6 m.ses m.num 50)
 else if m.num≠x.num+1 then(x,[])
 else if m.kind=2 then(match x.opn with
  | _::_=>(let y:={ x with num:=x.num+1,ans:=x.ans++[m.same] }.next H;(y,y.rep))
  | []=>(x,[]))
 else if m.kind=3∧m.nxt<x.bat.length then(let y:={ x with num:=x.num+1 }.batch m.nxt.toNat;(y,y.rep))
 else(x,[])
def Srv.take (H:List UInt8→Int→Int→Int→Bool)(x:Srv)(b:List UInt8):Srv×List UInt8:=x.told H (Ci b).1 (Ci b).2
end Go.Proofs.YtaclhhkblbacgaaGreat
