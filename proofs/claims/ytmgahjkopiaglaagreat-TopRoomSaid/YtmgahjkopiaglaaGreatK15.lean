/- Lemmas, walks and contracts by which the statement is proved. -/
import Derived.Test.YtmgahjkopiaglaaGreatK14
set_option maxRecDepth 100000
set_option maxHeartbeats 16000000
set_option linter.all false
namespace Go.Proofs.YtmgahjkopiaglaaGreat
open Go.Proofs.Tryz
structure Ap where
 n:Int
 az:List (Int×Int)
 T:List iD
 bF:Bool
namespace V
def jV:Pc.bG:=⟨0,0,0,[],[],[]⟩
def mS:Hu.Host:=⟨0,0,0,[],[]⟩
def place(l:List Int)(x:Int):Int:=Pc.idx (λy=>decide (y=x)) l
def Ku(a:Ap)(k:Int):Hu.Host:=
 let j:=if k<0\/a.n<=k then 0 else k
 ⟨j,(a.T.getD j.toNat ⟨0,[]⟩).start,0,List.replicate (Gr.ins a.az j).length [],List.replicate (Gr.outs a.az j).length []⟩
def sendAll(a:Ap)(k:Int):List (Int×Int)->List (List Int)->List (Int×(Int×Int))->Option (List (List Int)×List (Int×(Int×Int)))
 |[],Z,aQ=>some (Z,aQ)
 |s::l,Z,aQ=>
  let x:=Gr.find a.az k s.1;let i:=(place (Gr.outs a.az k) x).toNat;let row:=Z.getD i []
  if 500<=row.length then none else sendAll a k l (Z.set i (row++[s.2])) (aQ++[(x,((row.length:Int)+1,s.2))])
def jW(a:Ap)(h:Hu.Host)(k:Int):Int×Hu.Host×List (Int×(Int×Int)):=
 if (Tb.at_ a.T h.node h.state).mode=1 then
  match Tb.nx a.T h.node h.state k with
  |none=>(3,mS,[])
  |some p=>match sendAll a h.node p.eo h.Z [] with
   |none=>(2,mS,[])
   |some (Z,aQ)=>(0,⟨h.node,p.next,h.steps+1,h.bD,Z⟩,aQ)
 else(8,mS,[])
def vg(m:Int×Int)(row:List (Int×Int)):List (Int×Int):=row.takeWhile (λx=>decide (x.1<m.1))++m::row.dropWhile (λx=>decide (x.1<m.1))
def jX(a:Ap)(h:Hu.Host)(link:Int)(m:Int×Int):Int×Hu.Host:=
 let i:=place (Gr.ins a.az h.node) link
 if i<0\/m.1<1\/500<m.1\/m.2<0\/4<=m.2 then(1,mS) else
 if (h.bD.getD i.toNat []).any (λx=>decide (x.1=m.1)) then(1,mS) else
 (0,⟨h.node,Tb.taken a.T h.node h.state (Gr.at_ a.az link.toNat).1 m.2,h.steps+1,h.bD.set i.toNat (vg m (h.bD.getD i.toNat [])),h.Z⟩)
def jz(a:Ap)(h:Hu.Host)(link:Int):Int:=
 let i:=place (Gr.ins a.az h.node) link
 if 0<=i then((h.bD.getD i.toNat []).length:Int) else 0
def y9(a:Ap)(h:Hu.Host)(link:Int):Int:=
 let i:=place (Gr.outs a.az h.node) link
 if 0<=i then((h.Z.getD i.toNat []).length:Int) else 0
def bare(h:Hu.Host):Pc.bG:=⟨h.node,h.state,h.steps,h.Z.map λl=>(l.length:Int),List.replicate h.bD.length [],[]⟩
end V
structure Mk where
 aC:Int
 fj:List Bool
 p:Pc.bG
structure PW where
 aC:Int
 p:Pc.bG
structure Tr where
 aC:Int
 up:Int
 wait:Int
 kids:List Int
structure Nd where
 h:Hu.Host
 m:Mk
 u:PW
 t:Tr
 jz:List Pc.bG
 heard:Int
 told:Int
 seen:List Int
namespace V
def mh(h:Hu.Host)(e:Int):Mk:=⟨e,List.replicate h.bD.length true,bare h⟩
def sR(m:Mk)(h:Hu.Host)(e i:Int):Mk:=
 if i<0\/(h.bD.length:Int)<=i then m else
 let m':=if m.aC=e then m else mh h e
 ⟨m'.aC,m'.fj.set i.toNat false,m'.p⟩
def za(m:Mk)(i:Int)(x:Int×Int):Mk:=
 if (0<=i/\i<(m.fj.length:Int))/\m.fj.getD i.toNat false=true then⟨m.aC,m.fj,{m.p with bD:=m.p.bD.set i.toNat (m.p.bD.getD i.toNat []++[x])}⟩ else m
def YE(m:Mk)(e:Int):Bool:=(m.aC==e)&& !(m.fj.contains true)
def lP(u:PW)(h:Hu.Host)(e:Int):PW:=if e<=u.aC then u else⟨e,h.told⟩
def YF(u:PW)(e:Int):Bool:=decide (e<=u.aC)
def qm(t:Tr)(e l n:Int):Tr:=if t.aC=e then t else⟨e,l,max n 0,[]⟩
def kD(t:Tr)(e l:Int)(yes:Bool):Option Tr:=
 if t.aC≠e\/t.wait<1 then none else some ⟨t.aC,t.up,t.wait-1,if yes then t.kids++[l] else t.kids⟩
def settled(t:Tr)(e:Int):Bool:=(t.aC==e)&&decide (t.wait<1)
def sS(x:Pc.bG):List Pc.bG->List Pc.bG
 |[]=>[x]
 |y::l=>if x.node<y.node then y::sS x l else x::y::l
def Ss(l:List Pc.bG):List Pc.bG:=(l.foldl (λr x=>sS x r) []).reverse
def wR:List Pc.bG->Bool
 |x::y::l=>(x.node==y.node)||wR (y::l)
 |_=>false
def merge(a b:List Pc.bG):Option (List Pc.bG):=if wR (Ss (a++b)) then none else some (Ss (a++b))
def blocked(a:Ap)(h:Hu.Host):Bool:=(Tb.at_ a.T h.node h.state).mode==2
def dp(a:Ap)(h:Hu.Host)(init num:Int)(path:List Int):List (Int×Fr):=
 (Tb.at_ a.T h.node h.state).waits.map λw=>(Gr.find a.az h.node w,⟨6,0,0,0,[],init,num,jz a h (Gr.find a.az w h.node),path++[h.node]⟩)
def fD(a:Ap)(h:Hu.Host)(num:Int):Int×List (Int×Fr):=
 if a.bF=false then(9,[]) else if num<1\/200<num then(2,[]) else if blocked a h=false then(8,[]) else(0,dp a h h.node num [])
def AB(seen:List Int)(k:Nat)(x:Int):List Int:=(seen++List.replicate (k+1-seen.length) 0).set k x
def nB(a:Ap)(h:Hu.Host)(seen:List Int)(link:Int)(f:Fr):List Int×List (Int×Fr)×List Int:=
 if (Gr.ins a.az h.node).contains link=false\/blocked a h=false\/y9 a h (Gr.back a.az link)≠f.count then(seen,[],[]) else
 if f.init=h.node then(seen,[],f.path) else
 if f.num<=seen.getD f.init.toNat 0 then(seen,[],[]) else
 (AB seen f.init.toNat f.num,dp a h f.init f.num f.path,[])
end V
structure Wk where
 x:Nd
 Z:List (Int×Fr)
 nC:List Pc.bG
 pC:List Int
namespace V
def BJ(k e:Int):Fr:=⟨k,e,0,0,[],0,0,0,[]⟩
def send(w:Wk)(l:Int)(f:Fr):Wk:={w with Z:=w.Z++[(l,f)]}
def kind(a:Ap):Int:=if a.bF then 1 else 2
def outs(a:Ap)(w:Wk):List Int:=Gr.outs a.az w.x.h.node
def gI(a:Ap)(e:Int)(w:Wk):Wk:={w with x:={w.x with jz:=[],heard:=0},Z:=w.Z++(outs a w).map λl=>(l,BJ (kind a) e)}
def jJ(a:Ap)(x:Nd):Pc.bG:=if a.bF then x.m.p else x.u.p
def Kv(a:Ap)(x:Nd)(e:Int):Bool:=if a.bF then YE x.m e else YF x.u e
def PX(a:Ap)(x:Nd):Bool:=decide (x.told<x.t.aC)&&(Kv a x x.t.aC&&(settled x.t x.t.aC&&decide (x.heard=x.t.kids.length)))
def tell(a:Ap)(w:Wk):Except Int Wk:=
 if PX a w.x then
  match merge w.x.jz [jJ a w.x] with
  |none=> .error 4
  |some all=>
   let w1:Wk:={w with x:={w.x with told:=w.x.t.aC}}
   if w.x.t.up<0 then .ok {w1 with nC:=all} else .ok (send w1 (Gr.back a.az w.x.t.up) ⟨5,w.x.t.aC,0,0,all,0,0,0,[]⟩)
 else .ok w
def Ug(a:Ap)(w:Wk)(link:Int):Int:=place (Gr.ins a.az w.x.h.node) link
def uB(a:Ap)(link:Int)(f:Fr)(w:Wk):Except Int Wk:=
 match jX a w.x.h link (f.seq,f.bB) with
 |(0,h)=> .ok {w with x:=if a.bF then {w.x with h:=h,m:=za w.x.m (place (Gr.ins a.az h.node) link) (f.seq,f.bB)} else {w.x with h:=h,u:=lP w.x.u w.x.h f.aC}}
 |(e,_)=> .error e
def j4(a:Ap)(link:Int)(f:Fr)(w:Wk):Except Int Wk:=
 if f.kind≠kind a then .error 9 else
 if f.aC<w.x.t.aC then .error 1 else
 let x1:Nd:=if a.bF then {w.x with m:=sR w.x.m w.x.h f.aC (Ug a w link)} else {w.x with u:=lP w.x.u w.x.h f.aC};let w1:Wk:={w with x:={x1 with t:=qm w.x.t f.aC link (outs a w).length}}
 if w.x.t.aC=f.aC then tell a (send w1 (Gr.back a.az link) (BJ 4 f.aC)) else tell a (gI a f.aC (send w1 (Gr.back a.az link) (BJ 3 f.aC)))
def lQ(a:Ap)(link:Int)(f:Fr)(w:Wk):Except Int Wk:=
 match kD w.x.t f.aC (Gr.back a.az link) (f.kind==3) with
 |none=> .error 1
 |some t=>tell a {w with x:={w.x with t:=t}}
def kE(a:Ap)(link:Int)(f:Fr)(w:Wk):Except Int Wk:=
 if f.aC=w.x.t.aC/\w.x.told≠f.aC/\w.x.t.kids.contains (Gr.back a.az link)=true then
  match merge w.x.jz f.pieces with
  |none=> .error 4
  |some all=>tell a {w with x:={w.x with jz:=all,heard:=w.x.heard+1}}
 else .error 1
def mG(a:Ap)(link:Int)(f:Fr)(w:Wk):Except Int Wk:=
 let r:=nB a w.x.h w.x.seen link f
 .ok {w with x:={w.x with seen:=r.1},Z:=r.2.1,pC:=r.2.2}
def lR(x:Nd):Wk:=⟨x,[],[],[]⟩
def Su(a:Ap)(x:Nd)(link:Int)(f:Fr):Except Int Wk:=
 if 0<=Ug a (lR x) link/\Fr.right f=true then
  if f.kind=0 then uB a link f (lR x) else
  if f.kind=1\/f.kind=2 then j4 a link f (lR x) else
  if f.kind=3\/f.kind=4 then lQ a link f (lR x) else
  if f.kind=5 then kE a link f (lR x) else mG a link f (lR x)
 else .error 1
def start(a:Ap)(x:Nd)(e:Int):Except Int Wk:=
 if (1<=e/\e<=200)/\x.m.aC<e/\x.u.aC<e/\x.t.aC<e then
  let x1:Nd:=if a.bF then {x with m:=mh x.h e} else {x with u:=lP x.u x.h e}
  tell a (gI a e {lR x with x:={x1 with t:=⟨e,-1,((Gr.outs a.az x.h.node).length:Int),[]⟩}})
 else .error 1
def rM(a:Ap)(k:Int):Nd:=⟨Ku a k,⟨0,[],jV⟩,⟨0,jV⟩,⟨0,0,0,[]⟩,[],0,0,[]⟩
def jm(a:Ap)(x:Nd)(k:Int):Int×Nd×List (Int×Fr):=
 match jW a x.h k with
 |(0,h,aQ)=>(0,{x with h:=h},aQ.map λs=>(s.1,⟨0,if a.bF then 0 else x.u.aC,s.2.1,s.2.2,[],0,0,0,[]⟩))
 |(e,_,_)=>(e,rM a (-1),[])
end V
structure Cf where
 aL:List Int
 az:List (List (Int×Int))
 aQ:List Int
structure St where
 kind:Int
 node:Int
 k:Int
 link:Int
 seq:Int
deriving DecidableEq
structure Fd where
 kind:Int
 aC:Int
 gJ:Bool
structure Nt where
 aX:List La
 nodes:List Nd
 aC:Int
 root:Int
 dp:Int
namespace V
def whole(a:Ap)(l:List Pc.bG):Bool:=
 decide ((l.length:Int)=a.n)&&((List.range l.length).all λi=>
  decide ((l.getD i jV).node=(i:Int))&&(Pc.right (l.getD i jV)&&(decide ((l.getD i jV).state<((a.T.getD i ⟨0,[]⟩).aL.length:Int))&&(decide ((l.getD i jV).aQ.length=(Gr.outs a.az i).length)&&decide ((l.getD i jV).bD.length=(Gr.ins a.az i).length)))))
def sU(a:Ap)(l:List Pc.bG)(i:Nat)(iU:Bool):Option (Int×List (Int×Int)):=
 let p:=l.getD (Gr.at_ a.az i).1.toNat jV;let q:=l.getD (Gr.at_ a.az i).2.toNat jV;let o:=(place (Gr.outs a.az p.node) i).toNat;let j:=(place (Gr.ins a.az q.node) i).toNat
 if iU=false then some (p.aQ.getD o 0,q.bD.getD j []) else
 if o<p.Z.length/\((p.Z.getD o []).length:Int)=p.aQ.getD o 0/\Hu.mixed (p.Z.getD o []) (q.bD.getD j [])=false then some (p.aQ.getD o 0,Hu.rest (p.Z.getD o []) (q.bD.getD j [])) else none
def jH(a:Ap)(l:List Pc.bG)(iU:Bool):Nat->Option (List Int×List (List (Int×Int)))
 |0=>some ([],[])
 |k+1=>match jH a l iU k with
  |none=>none
  |some (ss,ms)=>match sU a l k iU with
   |none=>none
   |some (s,m)=>some (ss++[s],ms++[m])
def oG:Cf:=⟨[],[],[]⟩
def rj(a:Ap)(c:Cf):Bool:=
 (decide ((c.aL.length:Int)=a.n)&&(decide (c.az.length=a.az.length)&&decide (c.aQ.length=a.az.length)))&&
 (((List.range c.aL.length).all λi=>decide (0<=c.aL.getD i 0)&&decide (c.aL.getD i 0<((a.T.getD i ⟨0,[]⟩).aL.length:Int)))&&
 ((List.range c.az.length).all λi=>Pn.gM (c.aQ.getD i 0) 0 (c.az.getD i [])))
def build(a:Ap)(l:List Pc.bG)(iU:Bool):Cf:=
 if whole a l then match jH a l iU a.az.length with
  |none=>oG
  |some (ss,ms)=>if rj a ⟨l.map λp=>p.state,ms,ss⟩ then⟨l.map λp=>p.state,ms,ss⟩ else oG
 else oG
def gJ(a:Ap)(c:Cf):Bool:=
 ((List.range c.aL.length).all λi=>(Tb.at_ a.T i (c.aL.getD i 0)).mode==0)&&((c.az.map λl=>(l.length:Int)).sum==0)
def rO(a:Ap)(c:Int):Nt:=⟨List.replicate a.az.length ⟨a.bF,c,[]⟩,(List.range a.n.toNat).map λk:Nat=>rM a (k:Int),0,-1,0⟩
def oH:Nd:=⟨mS,⟨0,[],jV⟩,⟨0,jV⟩,⟨0,0,0,[]⟩,[],0,0,[]⟩
def lj(ls:List La)(o:Int×Fr):List La:=
 if La.kx (ls.getD o.1.toNat La.zero) o.2=0 then ls.set o.1.toNat (La.push (ls.getD o.1.toNat La.zero) o.2) else ls
def du(ls:List La)(Z:List (Int×Fr)):List La:=Z.foldl lj ls
def has(t:Nt)(k:Int):Bool:=decide (0<=k)&&decide (k<(t.nodes.length:Int))
def fY(Z:List (Int×Fr))(l:Int):Int:=((Z.filter λo=>o.1==l).length:Int)
def jn(ls:List La)(Z:List (Int×Fr)):Bool:=Z.all λo=>La.fits (ls.getD o.1.toNat La.zero) (fY Z o.1)
def gU(a:Ap)(t:Nt)(k i:Int):Int×Nt:=
 if has t k=false then(1,t) else
 match jm a (t.nodes.getD k.toNat oH) i with
 |(0,x,Z)=>if jn t.aX Z then(0,{t with nodes:=t.nodes.set k.toNat x,aX:=du t.aX Z}) else(6,t)
 |(e,_,_)=>(e,t)
structure Rp where
 kind:Int
 aC:Int
 gJ:Bool
 step:St
def mT:St:=⟨0,0,0,0,0⟩
def report(a:Ap)(t:Nt)(w:Wk)(link:Int)(f:Fr):Rp×Nt:=
 if 0<w.nC.length then(⟨2,t.aC,gJ a (build a w.nC (!a.bF)),mT⟩,{t with root:=-1}) else
 if 0<w.pC.length then(⟨3,0,false,mT⟩,t) else
 if f.kind≠0\/f.seq=0 then(⟨0,0,false,mT⟩,t) else(⟨1,0,false,⟨1,0,0,link,f.seq⟩⟩,t)
def cS(a:Ap)(t:Nt)(link i:Int):Int×Rp×Nt:=
 let z:Rp:=⟨0,0,false,mT⟩
 if link<0\/(t.aX.length:Int)<=link then(1,z,t) else
 let ln:=t.aX.getD link.toNat La.zero
 if La.mN ln i≠0 then(La.mN ln i,z,t) else
 let f:=La.nz ln i;let k:=(Gr.at_ a.az link.toNat).2.toNat
 match Su a (t.nodes.getD k oH) link f with
 | .error e=>(e,z,t)
 | .ok w=>
  let t1:Nt:={t with aX:=du (t.aX.set link.toNat (La.take ln i)) w.Z,nodes:=t.nodes.set k w.x}
  (0,report a t1 w link f)
def ed(a:Ap)(t:Nt)(k:Int):Int×Rp×Nt:=
 let z:Rp:=⟨0,0,false,mT⟩
 if has t k=false then(1,z,t) else
 if 0<=t.root then(7,z,t) else
 if 200<=t.aC then(2,z,t) else
 match start a (t.nodes.getD k.toNat oH) (t.aC+1) with
 | .error e=>(e,z,t)
 | .ok w=>
  let t1:Nt:={t with aC:=t.aC+1,root:=k,nodes:=t.nodes.set k.toNat w.x,aX:=du t.aX w.Z};let r:=report a t1 w 0 Fr.zero
  (0,{r.1 with aC:=t.aC+1},r.2)
def ft(a:Ap)(t:Nt)(k:Int):Int×Nt:=
 if has t k=false then(1,t) else
 let x:=t.nodes.getD k.toNat oH
 if (fD a x.h 1).1≠0 then((fD a x.h 1).1,t) else
 if t.aX.any (λl=>decide (0<La.kV 6 l.l)) then(7,t) else
 if 200<=t.dp then(2,t) else
 (0,{t with dp:=t.dp+1,aX:=du t.aX (fD a x.h (t.dp+1)).2})
def wS(a:Ap)(t:Nt):Cf:=
 ⟨t.nodes.map λx=>x.h.state,t.aX.map La.msgs,(List.range t.aX.length).map λi=>y9 a (t.nodes.getD (Gr.at_ a.az i).1.toNat oH).h i⟩
structure qz where
 jB:List Int
 steps:List St
 eY:List Fd
 fJ:Nt
def find(eY:List Fd)(r:Rp):List Fd:=if r.kind=3\/r.kind=2 then eY++[⟨r.kind,r.aC,r.gJ⟩] else eY
def act(a:Ap)(p:qz)(c:Int×Int×Int):qz:=
 if c.1=0 then
  let r:=gU a p.fJ c.2.1 c.2.2
  ⟨p.jB++[r.1],if r.1=0 then p.steps++[⟨0,c.2.1,c.2.2,0,0⟩] else p.steps,p.eY,r.2⟩ else
 if c.1=1 then
  let r:=cS a p.fJ c.2.1 c.2.2
  ⟨p.jB++[r.1],if r.2.1.kind=1 then p.steps++[r.2.1.step] else p.steps,find p.eY r.2.1,r.2.2⟩ else
 if c.1=2 then
  let r:=ed a p.fJ c.2.1
  ⟨p.jB++[r.1],p.steps,find p.eY r.2.1,r.2.2⟩
 else
  let r:=ft a p.fJ c.2.1
  ⟨p.jB++[r.1],p.steps,p.eY,r.2⟩
def kW(a:Ap)(cap:Int)(cI:List (Int×Int×Int)):qz:=cI.foldl (act a) ⟨[],[],[],rO a cap⟩
end V
end Go.Proofs.YtmgahjkopiaglaaGreat
namespace Go.Proofs.YtmgahjkopiaglaaGreat
open Go.RowKit Go.Proofs.Tryz
def Y.ap:Y Ap where
 size:=4
 pos:=by omega
 is fr w S cs p:=∃v0 v1,cs=[.int .i64 p.n,v0,v1,.bool p.bF]/\ay (Y.msg) fr w S v0 p.az/\ay (Y.eC) fr w S v1 p.T
 len h:=by obtain⟨v0,v1,rfl,h0,F⟩:=h;rfl
 aE h Q:=by obtain⟨v0,v1,rfl,h0,F⟩:=h;exact⟨v0,v1,rfl,h0.aE Q,F.aE Q⟩
 aF h Q:=by obtain⟨v0,v1,rfl,h0,F⟩:=h;exact⟨v0,v1,rfl,h0.aF Q,F.aF Q⟩
 soft h:=by obtain⟨v0,v1,rfl,h0,F⟩:=h;exact⟨v0,v1,rfl,h0.soft,F.soft⟩
 one h:=by
  obtain⟨_,_,rfl,⟨_,_,rfl,_⟩,⟨_,_,rfl,_⟩⟩:=h;intro u hu;simp at hu;rcases hu with rfl |rfl |rfl |rfl<;>rfl
theorem da.ap{w:World}{S:Nat->Prop}{v:Value}{p:Ap}(h:da Y.ap w S v p):∃A0 A1 k0 k1,v=.agg #[p.n,.slice A0 p.az.length k0,.slice A1 p.T.length k1,p.bF]/\
 ay (Y.msg) false w S (.slice A0 p.az.length k0) p.az/\ay (Y.eC) false w S (.slice A1 p.T.length k1) p.T:=by
 obtain⟨cs,rfl,v0,v1,rfl,h0,F⟩:=h;obtain⟨A0,k0,rfl,_⟩:=id h0;obtain⟨A1,k1,rfl,_⟩:=id F;exact⟨A0,A1,k0,k1,rfl,h0,F⟩
theorem da.PY{w:World}{S:Nat->Prop}{p:Ap}{v0 v1:Value}(h0:ay (Y.msg) false w S v0 p.az)(F:ay (Y.eC) false w S v1 p.T):da Y.ap w S (.agg #[p.n,v0,v1,p.bF]) p:=
 ⟨[_,_,_,_],rfl,_,_,rfl,h0,F⟩
def Y.ho:Y Hu.Host where
 size:=5
 pos:=by omega
 is fr w S cs p:=∃v0 v1,cs=[.int .i64 p.node,.int .i64 p.state,.int .i64 p.steps,v0,v1]/\ay (Y.msg.slice) fr w S v0 p.bD/\ay (Y.int.slice) fr w S v1 p.Z
 len h:=by obtain⟨v0,v1,rfl,h0,F⟩:=h;rfl
 aE h Q:=by obtain⟨v0,v1,rfl,h0,F⟩:=h;exact⟨v0,v1,rfl,h0.aE Q,F.aE Q⟩
 aF h Q:=by obtain⟨v0,v1,rfl,h0,F⟩:=h;exact⟨v0,v1,rfl,h0.aF Q,F.aF Q⟩
 soft h:=by obtain⟨v0,v1,rfl,h0,F⟩:=h;exact⟨v0,v1,rfl,h0.soft,F.soft⟩
 one h:=by
  obtain⟨_,_,rfl,⟨_,_,rfl,_⟩,⟨_,_,rfl,_⟩⟩:=h;intro u hu;simp at hu;rcases hu with rfl |rfl |rfl |rfl |rfl<;>rfl
theorem da.ho{w:World}{S:Nat->Prop}{v:Value}{p:Hu.Host}(h:da Y.ho w S v p):∃A0 A1 k0 k1,v=.agg #[p.node,p.state,p.steps,.slice A0 p.bD.length k0,.slice A1 p.Z.length k1]/\
 ay (Y.msg.slice) false w S (.slice A0 p.bD.length k0) p.bD/\ay (Y.int.slice) false w S (.slice A1 p.Z.length k1) p.Z:=by
 obtain⟨cs,rfl,v0,v1,rfl,h0,F⟩:=h;obtain⟨A0,k0,rfl,_⟩:=id h0;obtain⟨A1,k1,rfl,_⟩:=id F;exact⟨A0,A1,k0,k1,rfl,h0,F⟩
theorem da.Jo{w:World}{S:Nat->Prop}{p:Hu.Host}{v0 v1:Value}(h0:ay (Y.msg.slice) false w S v0 p.bD)(F:ay (Y.int.slice) false w S v1 p.Z):da Y.ho w S (.agg #[p.node,p.state,p.steps,v0,v1]) p:=
 ⟨[_,_,_,_,_],rfl,_,_,rfl,h0,F⟩
def Y.Gl:Y Mk where
 size:=8
 pos:=by omega
 is fr w S cs p:=∃v0 v1 v2 v3,cs=[.int .i64 p.aC,v0,.int .i64 p.p.node,.int .i64 p.p.state,.int .i64 p.p.steps,v1,v2,v3]/\ay (Y.jd) fr w S v0 p.fj/\ay (Y.int) fr w S v1 p.p.aQ/\ay (Y.msg.slice) fr w S v2 p.p.bD/\ay (Y.int.slice) fr w S v3 p.p.Z
 len h:=by obtain⟨v0,v1,v2,v3,rfl,h0,F,R,h3⟩:=h;rfl
 aE h Q:=by obtain⟨v0,v1,v2,v3,rfl,h0,F,R,h3⟩:=h;exact⟨v0,v1,v2,v3,rfl,h0.aE Q,F.aE Q,R.aE Q,h3.aE Q⟩
 aF h Q:=by obtain⟨v0,v1,v2,v3,rfl,h0,F,R,h3⟩:=h;exact⟨v0,v1,v2,v3,rfl,h0.aF Q,F.aF Q,R.aF Q,h3.aF Q⟩
 soft h:=by obtain⟨v0,v1,v2,v3,rfl,h0,F,R,h3⟩:=h;exact⟨v0,v1,v2,v3,rfl,h0.soft,F.soft,R.soft,h3.soft⟩
 one h:=by
  obtain⟨_,_,_,_,rfl,⟨_,_,rfl,_⟩,⟨_,_,rfl,_⟩,⟨_,_,rfl,_⟩,⟨_,_,rfl,_⟩⟩:=h;intro u hu;simp at hu;rcases hu with rfl |rfl |rfl |rfl |rfl |rfl |rfl |rfl<;>rfl
theorem da.Gl{w:World}{S:Nat->Prop}{v:Value}{p:Mk}(h:da Y.Gl w S v p):∃A0 A1 A2 A3 k0 k1 k2 k3,v=.agg #[p.aC,.slice A0 p.fj.length k0,p.p.node,p.p.state,p.p.steps,.slice A1 p.p.aQ.length k1,.slice A2 p.p.bD.length k2,.slice A3 p.p.Z.length k3]/\
 ay (Y.jd) false w S (.slice A0 p.fj.length k0) p.fj/\ay (Y.int) false w S (.slice A1 p.p.aQ.length k1) p.p.aQ/\ay (Y.msg.slice) false w S (.slice A2 p.p.bD.length k2) p.p.bD/\ay (Y.int.slice) false w S (.slice A3 p.p.Z.length k3) p.p.Z:=by
 obtain⟨cs,rfl,v0,v1,v2,v3,rfl,h0,F,R,h3⟩:=h;obtain⟨A0,k0,rfl,_⟩:=id h0;obtain⟨A1,k1,rfl,_⟩:=id F;obtain⟨A2,k2,rfl,_⟩:=id R;obtain⟨A3,k3,rfl,_⟩:=id h3;exact⟨A0,A1,A2,A3,k0,k1,k2,k3,rfl,h0,F,R,h3⟩
theorem da.BK{w:World}{S:Nat->Prop}{p:Mk}{v0 v1 v2 v3:Value}(h0:ay (Y.jd) false w S v0 p.fj)(F:ay (Y.int) false w S v1 p.p.aQ)(R:ay (Y.msg.slice) false w S v2 p.p.bD)(h3:ay (Y.int.slice) false w S v3 p.p.Z):da Y.Gl w S (.agg #[p.aC,v0,p.p.node,p.p.state,p.p.steps,v1,v2,v3]) p:=
 ⟨[_,_,_,_,_,_,_,_],rfl,_,_,_,_,rfl,h0,F,R,h3⟩
def Y.hu:Y PW where
 size:=7
 pos:=by omega
 is fr w S cs p:=∃v0 v1 v2,cs=[.int .i64 p.aC,.int .i64 p.p.node,.int .i64 p.p.state,.int .i64 p.p.steps,v0,v1,v2]/\ay (Y.int) fr w S v0 p.p.aQ/\ay (Y.msg.slice) fr w S v1 p.p.bD/\ay (Y.int.slice) fr w S v2 p.p.Z
 len h:=by obtain⟨v0,v1,v2,rfl,h0,F,R⟩:=h;rfl
 aE h Q:=by obtain⟨v0,v1,v2,rfl,h0,F,R⟩:=h;exact⟨v0,v1,v2,rfl,h0.aE Q,F.aE Q,R.aE Q⟩
 aF h Q:=by obtain⟨v0,v1,v2,rfl,h0,F,R⟩:=h;exact⟨v0,v1,v2,rfl,h0.aF Q,F.aF Q,R.aF Q⟩
 soft h:=by obtain⟨v0,v1,v2,rfl,h0,F,R⟩:=h;exact⟨v0,v1,v2,rfl,h0.soft,F.soft,R.soft⟩
 one h:=by
  obtain⟨_,_,_,rfl,⟨_,_,rfl,_⟩,⟨_,_,rfl,_⟩,⟨_,_,rfl,_⟩⟩:=h;intro u hu;simp at hu;rcases hu with rfl |rfl |rfl |rfl |rfl |rfl |rfl<;>rfl
theorem da.hu{w:World}{S:Nat->Prop}{v:Value}{p:PW}(h:da Y.hu w S v p):∃A0 A1 A2 k0 k1 k2,v=.agg #[p.aC,p.p.node,p.p.state,p.p.steps,.slice A0 p.p.aQ.length k0,.slice A1 p.p.bD.length k1,.slice A2 p.p.Z.length k2]/\
 ay (Y.int) false w S (.slice A0 p.p.aQ.length k0) p.p.aQ/\ay (Y.msg.slice) false w S (.slice A1 p.p.bD.length k1) p.p.bD/\ay (Y.int.slice) false w S (.slice A2 p.p.Z.length k2) p.p.Z:=by
 obtain⟨cs,rfl,v0,v1,v2,rfl,h0,F,R⟩:=h;obtain⟨A0,k0,rfl,_⟩:=id h0;obtain⟨A1,k1,rfl,_⟩:=id F;obtain⟨A2,k2,rfl,_⟩:=id R;exact⟨A0,A1,A2,k0,k1,k2,rfl,h0,F,R⟩
theorem da.VB{w:World}{S:Nat->Prop}{p:PW}{v0 v1 v2:Value}(h0:ay (Y.int) false w S v0 p.p.aQ)(F:ay (Y.msg.slice) false w S v1 p.p.bD)(R:ay (Y.int.slice) false w S v2 p.p.Z):da Y.hu w S (.agg #[p.aC,p.p.node,p.p.state,p.p.steps,v0,v1,v2]) p:=
 ⟨[_,_,_,_,_,_,_],rfl,_,_,_,rfl,h0,F,R⟩
def Y.tr:Y Tr where
 size:=4
 pos:=by omega
 is fr w S cs p:=∃v0,cs=[.int .i64 p.aC,.int .i64 p.up,.int .i64 p.wait,v0]/\ay (Y.int) fr w S v0 p.kids
 len h:=by obtain⟨v0,rfl,h0⟩:=h;rfl
 aE h Q:=by obtain⟨v0,rfl,h0⟩:=h;exact⟨v0,rfl,h0.aE Q⟩
 aF h Q:=by obtain⟨v0,rfl,h0⟩:=h;exact⟨v0,rfl,h0.aF Q⟩
 soft h:=by obtain⟨v0,rfl,h0⟩:=h;exact⟨v0,rfl,h0.soft⟩
 one h:=by
  obtain⟨_,rfl,⟨_,_,rfl,_⟩⟩:=h;intro u hu;simp at hu;rcases hu with rfl |rfl |rfl |rfl<;>rfl
theorem da.tr{w:World}{S:Nat->Prop}{v:Value}{p:Tr}(h:da Y.tr w S v p):∃A0 k0,v=.agg #[p.aC,p.up,p.wait,.slice A0 p.kids.length k0]/\
 ay (Y.int) false w S (.slice A0 p.kids.length k0) p.kids:=by
 obtain⟨cs,rfl,v0,rfl,h0⟩:=h;obtain⟨A0,k0,rfl,_⟩:=id h0;exact⟨A0,k0,rfl,h0⟩
theorem da.Sv{w:World}{S:Nat->Prop}{p:Tr}{v0:Value}(h0:ay (Y.int) false w S v0 p.kids):da Y.tr w S (.agg #[p.aC,p.up,p.wait,v0]) p:=
 ⟨[_,_,_,_],rfl,_,rfl,h0⟩
def Y.nd:Y Nd where
 size:=28
 pos:=by omega
 is fr w S cs p:=∃v0 v1 v2 v3 v4 v5 v6 v7 v8 v9 v10 v11,cs=[.int .i64 p.h.node,.int .i64 p.h.state,.int .i64 p.h.steps,v0,v1,.int .i64 p.m.aC,v2,.int .i64 p.m.p.node,.int .i64 p.m.p.state,.int .i64 p.m.p.steps,v3,v4,v5,.int .i64 p.u.aC,.int .i64 p.u.p.node,.int .i64 p.u.p.state,.int .i64 p.u.p.steps,v6,v7,v8,.int .i64 p.t.aC,.int .i64 p.t.up,.int .i64 p.t.wait,v9,v10,.int .i64 p.heard,.int .i64 p.told,v11]/\ay (Y.msg.slice) fr w S v0 p.h.bD/\ay (Y.int.slice) fr w S v1 p.h.Z/\ay (Y.jd) fr w S v2 p.m.fj/\ay (Y.int) fr w S v3 p.m.p.aQ/\ay (Y.msg.slice) fr w S v4 p.m.p.bD/\ay (Y.int.slice) fr w S v5 p.m.p.Z/\ay (Y.int) fr w S v6 p.u.p.aQ/\ay (Y.msg.slice) fr w S v7 p.u.p.bD/\ay (Y.int.slice) fr w S v8 p.u.p.Z/\ay (Y.int) fr w S v9 p.t.kids/\ay (Y.piece) fr w S v10 p.jz/\ay (Y.int) fr w S v11 p.seen
 len h:=by obtain⟨v0,v1,v2,v3,v4,v5,v6,v7,v8,v9,v10,v11,rfl,h0,F,R,h3,h4,h5,h6,h7,h8,h9,Ho,Kw⟩:=h;rfl
 aE h Q:=by obtain⟨v0,v1,v2,v3,v4,v5,v6,v7,v8,v9,v10,v11,rfl,h0,F,R,h3,h4,h5,h6,h7,h8,h9,Ho,Kw⟩:=h;exact⟨v0,v1,v2,v3,v4,v5,v6,v7,v8,v9,v10,v11,rfl,h0.aE Q,F.aE Q,R.aE Q,h3.aE Q,h4.aE Q,h5.aE Q,h6.aE Q,h7.aE Q,h8.aE Q,h9.aE Q,Ho.aE Q,Kw.aE Q⟩
 aF h Q:=by obtain⟨v0,v1,v2,v3,v4,v5,v6,v7,v8,v9,v10,v11,rfl,h0,F,R,h3,h4,h5,h6,h7,h8,h9,Ho,Kw⟩:=h;exact⟨v0,v1,v2,v3,v4,v5,v6,v7,v8,v9,v10,v11,rfl,h0.aF Q,F.aF Q,R.aF Q,h3.aF Q,h4.aF Q,h5.aF Q,h6.aF Q,h7.aF Q,h8.aF Q,h9.aF Q,Ho.aF Q,Kw.aF Q⟩
 soft h:=by obtain⟨v0,v1,v2,v3,v4,v5,v6,v7,v8,v9,v10,v11,rfl,h0,F,R,h3,h4,h5,h6,h7,h8,h9,Ho,Kw⟩:=h;exact⟨v0,v1,v2,v3,v4,v5,v6,v7,v8,v9,v10,v11,rfl,h0.soft,F.soft,R.soft,h3.soft,h4.soft,h5.soft,h6.soft,h7.soft,h8.soft,h9.soft,Ho.soft,Kw.soft⟩
 one h:=by
  obtain⟨_,_,_,_,_,_,_,_,_,_,_,_,rfl,⟨_,_,rfl,_⟩,⟨_,_,rfl,_⟩,⟨_,_,rfl,_⟩,⟨_,_,rfl,_⟩,⟨_,_,rfl,_⟩,⟨_,_,rfl,_⟩,⟨_,_,rfl,_⟩,⟨_,_,rfl,_⟩,⟨_,_,rfl,_⟩,⟨_,_,rfl,_⟩,⟨_,_,rfl,_⟩,⟨_,_,rfl,_⟩⟩:=h;intro u hu;simp at hu;rcases hu with rfl |rfl |rfl |rfl |rfl |rfl |rfl |rfl |rfl |rfl |rfl |rfl |rfl |rfl |rfl |rfl |rfl |rfl |rfl |rfl |rfl |rfl |rfl |rfl |rfl |rfl |rfl |rfl<;>rfl
theorem da.nd{w:World}{S:Nat->Prop}{v:Value}{p:Nd}(h:da Y.nd w S v p):∃A0 A1 A2 A3 A4 A5 A6 A7 A8 A9 GR JP k0 k1 k2 k3 k4 k5 k6 k7 k8 k9 k10 k11,v=.agg #[p.h.node,p.h.state,p.h.steps,.slice A0 p.h.bD.length k0,.slice A1 p.h.Z.length k1,p.m.aC,.slice A2 p.m.fj.length k2,p.m.p.node,p.m.p.state,p.m.p.steps,.slice A3 p.m.p.aQ.length k3,.slice A4 p.m.p.bD.length k4,.slice A5 p.m.p.Z.length k5,p.u.aC,p.u.p.node,p.u.p.state,p.u.p.steps,.slice A6 p.u.p.aQ.length k6,.slice A7 p.u.p.bD.length k7,.slice A8 p.u.p.Z.length k8,p.t.aC,p.t.up,p.t.wait,.slice A9 p.t.kids.length k9,.slice GR p.jz.length k10,p.heard,p.told,.slice JP p.seen.length k11]/\
 ay (Y.msg.slice) false w S (.slice A0 p.h.bD.length k0) p.h.bD/\ay (Y.int.slice) false w S (.slice A1 p.h.Z.length k1) p.h.Z/\ay (Y.jd) false w S (.slice A2 p.m.fj.length k2) p.m.fj/\ay (Y.int) false w S (.slice A3 p.m.p.aQ.length k3) p.m.p.aQ/\ay (Y.msg.slice) false w S (.slice A4 p.m.p.bD.length k4) p.m.p.bD/\ay (Y.int.slice) false w S (.slice A5 p.m.p.Z.length k5) p.m.p.Z/\ay (Y.int) false w S (.slice A6 p.u.p.aQ.length k6) p.u.p.aQ/\ay (Y.msg.slice) false w S (.slice A7 p.u.p.bD.length k7) p.u.p.bD/\ay (Y.int.slice) false w S (.slice A8 p.u.p.Z.length k8) p.u.p.Z/\ay (Y.int) false w S (.slice A9 p.t.kids.length k9) p.t.kids/\ay (Y.piece) false w S (.slice GR p.jz.length k10) p.jz/\ay (Y.int) false w S (.slice JP p.seen.length k11) p.seen:=by
 obtain⟨cs,rfl,v0,v1,v2,v3,v4,v5,v6,v7,v8,v9,v10,v11,rfl,h0,F,R,h3,h4,h5,h6,h7,h8,h9,Ho,Kw⟩:=h;obtain⟨A0,k0,rfl,_⟩:=id h0;obtain⟨A1,k1,rfl,_⟩:=id F;obtain⟨A2,k2,rfl,_⟩:=id R;obtain⟨A3,k3,rfl,_⟩:=id h3;obtain⟨A4,k4,rfl,_⟩:=id h4;obtain⟨A5,k5,rfl,_⟩:=id h5;obtain⟨A6,k6,rfl,_⟩:=id h6;obtain⟨A7,k7,rfl,_⟩:=id h7;obtain⟨A8,k8,rfl,_⟩:=id h8;obtain⟨A9,k9,rfl,_⟩:=id h9;obtain⟨GR,k10,rfl,_⟩:=id Ho;obtain⟨JP,k11,rfl,_⟩:=id Kw;exact⟨A0,A1,A2,A3,A4,A5,A6,A7,A8,A9,GR,JP,k0,k1,k2,k3,k4,k5,k6,k7,k8,k9,k10,k11,rfl,h0,F,R,h3,h4,h5,h6,h7,h8,h9,Ho,Kw⟩
theorem da.nd_{w:World}{S:Nat->Prop}{p:Nd}{v0 v1 v2 v3 v4 v5 v6 v7 v8 v9 v10 v11:Value}(h0:ay (Y.msg.slice) false w S v0 p.h.bD)(F:ay (Y.int.slice) false w S v1 p.h.Z)(R:ay (Y.jd) false w S v2 p.m.fj)(h3:ay (Y.int) false w S v3 p.m.p.aQ)(h4:ay (Y.msg.slice) false w S v4 p.m.p.bD)(h5:ay (Y.int.slice) false w S v5 p.m.p.Z)(h6:ay (Y.int) false w S v6 p.u.p.aQ)(h7:ay (Y.msg.slice) false w S v7 p.u.p.bD)(h8:ay (Y.int.slice) false w S v8 p.u.p.Z)(h9:ay (Y.int) false w S v9 p.t.kids)(Ho:ay (Y.piece) false w S v10 p.jz)(Kw:ay (Y.int) false w S v11 p.seen):da Y.nd w S (.agg #[p.h.node,p.h.state,p.h.steps,v0,v1,p.m.aC,v2,p.m.p.node,p.m.p.state,p.m.p.steps,v3,v4,v5,p.u.aC,p.u.p.node,p.u.p.state,p.u.p.steps,v6,v7,v8,p.t.aC,p.t.up,p.t.wait,v9,v10,p.heard,p.told,v11]) p:=
 ⟨[_,_,_,_,_,_,_,_,_,_,_,_,_,_,_,_,_,_,_,_,_,_,_,_,_,_,_,_],rfl,_,_,_,_,_,_,_,_,_,_,_,_,rfl,h0,F,R,h3,h4,h5,h6,h7,h8,h9,Ho,Kw⟩
def Y.Z:Y (Int×Fr) where
 size:=10
 pos:=by omega
 is fr w S cs p:=∃v0 v1,cs=[.int .i64 p.1,.int .i64 p.2.kind,.int .i64 p.2.aC,.int .i64 p.2.seq,.int .i64 p.2.bB,v0,.int .i64 p.2.init,.int .i64 p.2.num,.int .i64 p.2.count,v1]/\ay (Y.piece) fr w S v0 p.2.pieces/\ay (Y.int) fr w S v1 p.2.path
 len h:=by obtain⟨v0,v1,rfl,h0,F⟩:=h;rfl
 aE h Q:=by obtain⟨v0,v1,rfl,h0,F⟩:=h;exact⟨v0,v1,rfl,h0.aE Q,F.aE Q⟩
 aF h Q:=by obtain⟨v0,v1,rfl,h0,F⟩:=h;exact⟨v0,v1,rfl,h0.aF Q,F.aF Q⟩
 soft h:=by obtain⟨v0,v1,rfl,h0,F⟩:=h;exact⟨v0,v1,rfl,h0.soft,F.soft⟩
 one h:=by
  obtain⟨_,_,rfl,⟨_,_,rfl,_⟩,⟨_,_,rfl,_⟩⟩:=h;intro u hu;simp at hu;rcases hu with rfl |rfl |rfl |rfl |rfl |rfl |rfl |rfl |rfl |rfl<;>rfl
def Y.st:Y St where
 size:=5
 pos:=by omega
 is _ _ _ cs p:=cs=[.int .i64 p.kind,.int .i64 p.node,.int .i64 p.k,.int .i64 p.link,.int .i64 p.seq]
 len h:=by rw[h];rfl
 aE h _:=h
 aF h _:=h
 soft h:=h
 one h:=by rw[h];intro u hu;simp at hu;rcases hu with rfl |rfl |rfl |rfl |rfl<;>rfl
def Y.aQ:Y (Int×Int×Int) where
 size:=3
 pos:=by omega
 is _ _ _ cs p:=cs=[.int .i64 p.1,.int .i64 p.2.1,.int .i64 p.2.2]
 len h:=by rw[h];rfl
 aE h _:=h
 aF h _:=h
 soft h:=h
 one h:=by rw[h];intro u hu;simp at hu;rcases hu with rfl |rfl |rfl<;>rfl
theorem da.pc{w:World}{S:Nat->Prop}{v:Value}{p:Pc.bG}(h:da Y.piece w S v p):∃A0 A1 A2 k0 k1 k2,v=.agg #[p.node,p.state,p.steps,.slice A0 p.aQ.length k0,.slice A1 p.bD.length k1,.slice A2 p.Z.length k2]/\
 ay Y.int false w S (.slice A0 p.aQ.length k0) p.aQ/\ay Y.msg.slice false w S (.slice A1 p.bD.length k1) p.bD/\ay Y.int.slice false w S (.slice A2 p.Z.length k2) p.Z:=by
 obtain⟨cs,rfl,v0,v1,v2,rfl,h0,F,R⟩:=h;obtain⟨A0,k0,rfl,_⟩:=id h0;obtain⟨A1,k1,rfl,_⟩:=id F;obtain⟨A2,k2,rfl,_⟩:=id R;exact⟨A0,A1,A2,k0,k1,k2,rfl,h0,F,R⟩
theorem G.open_{w:World}{b:Nat}{cs:Array Value}{T:TypeId}(h:G w b cs T):(∀i,w.cell? ⟨b,i,none⟩=cs[i]?)/\(∀i,w.frozen? ⟨b,i,none⟩=false)/\b<w.1.size:=
 ⟨λi=>aD h i,λi=>h.mO i,h.lt⟩
theorem dm.row{α:Type}{r:Y α}{fr:Bool}{w:World}{S:Nat->Prop}{k:Nat}{A:Option Addr}{xs:List (List α)}{x:List α}(h:dm r.slice fr w S A xs)(D:xs[k]?=some x):
 ∃g o B c,A=some ⟨g,o,none⟩/\S g/\w.cell? ⟨g,o+k,none⟩=some (.slice B x.length c)/\ay r fr w S (.slice B x.length c) x:=by
 obtain⟨g,o,cs,rfl,F,⟨v,rfl,h3⟩,h4⟩:=dm.at_ h D;obtain⟨B,c,rfl,_⟩:=id h3;exact⟨g,o,B,c,rfl,F,by simpa[Y.slice] using(h4 0 _ rfl).1,h3⟩
theorem mH{α:Type}{b:α->Bool}{l:List α}(h:0<=Pc.idx b l):∃j:Nat,Pc.idx b l=j/\j<l.length:=by
 rcases Pc.BF b l with F|⟨k,x,F,R,_⟩
 ·omega
 ·exact⟨k,F,R⟩
end Go.Proofs.YtmgahjkopiaglaaGreat
