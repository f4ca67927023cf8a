/- Lemmas, walks and contracts by which the statement is proved. -/
import Derived.Test.YtmgahjkopiaglaaGreatK36
import Derived.Laws.Externs
import Derived.Laws.FloatArith
set_option maxRecDepth 100000
set_option maxHeartbeats 16000000
set_option linter.all false
namespace Go.Proofs.YtmgahjkopiaglaaGreat
open Go.RowKit Go.Proofs.Tryz
def La.bQ(c:Int)(x:La):La:=⟨x.bF,c,x.l⟩
def Nt.bQ(c:Int)(t:Nt):Nt:=⟨t.aX.map (La.bQ c),t.nodes,t.aC,t.root,t.dp⟩
def V.qz.bQ(c:Int)(p:V.qz):V.qz:=⟨p.jB,p.steps,p.eY,p.fJ.bQ c⟩
section
variable{a:Ap}{N k:Nat}{c d:Int}{t:Nt}{ls:List La}
theorem tm{i:Nat}(hi:i<ls.length):(ls.map (La.bQ d)).getD i La.zero=La.bQ d (ls.getD i La.zero):=by
 rw[dB,dB,z',eu hi];rfl
theorem xg{o:Int×Fr}(h:∀x∈ls,qw a c x)(hd:c<=d/\d<=20)(ho:0<=o.1/\o.1<(ls.length:Int))(hf:o.2.kind≠0\/(La.kV 0 (ls.getD o.1.toNat La.zero).l:Int)+1<=c):V.lj (ls.map (La.bQ d)) o=(V.lj ls o).map (La.bQ d):=by
 have hi:o.1.toNat<ls.length:=by omega
 have D:=h _ (nK (d:=La.zero) hi);unfold V.lj;rw[tm hi];generalize ls.getD o.1.toNat La.zero=x at *;obtain⟨p1,p2,p3,p4⟩:=tj D.r;rw[D.c] at p2 p3;have he:La.kx (La.bQ d x) o.2=La.kx x o.2/\(La.kx x o.2=0->La.push (La.bQ d x) o.2=La.bQ d (La.push x o.2)):=by
  cases hr:Fr.right o.2
  ·unfold La.kx;rw[hr];exact⟨rfl,λq=>by cases q⟩
  ·have e:La.right (La.more (La.bQ d x) o.2)=La.right (La.more x o.2):=by
    unfold La.right La.more La.bQ La.roomy;dsimp only;rw[D.c,La.od,dh,j'];congr 1;by_cases Q:o.2.kind=0
    ·rw[aS Q];rcases hf with hf|hf
     ·exact absurd Q hf
     ·rw[cV (show 1<=d by omega),cV (show d<=20 by omega),cV (show((La.kV 0 x.l+1:Nat):Int)<=d by omega),cV (show 1<=c by omega),cV (show c<=20 by omega),cV (show((La.kV 0 x.l+1:Nat):Int)<=c by omega)]
    ·rw[aO Q];rw[cV (show 1<=d by omega),cV (show d<=20 by omega),cV (show((La.kV 0 x.l+0:Nat):Int)<=d by omega),cV (show 1<=c by omega),cV (show c<=20 by omega),cV (show((La.kV 0 x.l+0:Nat):Int)<=c by omega)]
   unfold La.kx La.push;rw[hr,e];refine⟨rfl,λq=>?_⟩;cases hm:La.right (La.more x o.2)
   ·rw[hm] at q;cases q
   ·rfl
 rw[he.1];split
 ·next q=>rw[he.2 q,wk]
 ·rfl
theorem lT:∀ {Z:List (Int×Fr)} {ls:List La},(∀x∈ls,qw a c x)->c<=d/\d<=20->(∀o∈Z,(0<=o.1/\o.1<(ls.length:Int))/\o.2.kind≠0)->V.du (ls.map (La.bQ d)) Z=(V.du ls Z).map (La.bQ d)
 |[],_,_,_,_=>rfl
 |o::Z,ls,h,hd,ho=>by
  have F:=xg (d:=d) h hd (ho o (by simp)).1 (.inl (ho o (by simp)).2);obtain⟨R,h3⟩:=yb h (ho o (by simp)).1;show V.du (V.lj (ls.map (La.bQ d)) o) Z=_;rw[F];exact lT R hd λo q=>by rw[h3];exact ho o (by simp[q])
theorem N'{o:Int×Fr}(ho:0<=o.1/\o.1<(ls.length:Int))(Q:o.2.kind=0)(i:Nat):(La.kV 0 ((V.lj ls o).getD i La.zero).l:Int)<=(La.kV 0 (ls.getD i La.zero).l:Int)+if o.1=(i:Int) then 1 else 0:=by
 unfold V.lj;split
 ·next he=>
  by_cases hi:o.1=(i:Int)
  ·have T7:o.1.toNat=i:=by omega
   have hl:i<ls.length:=by omega
   rw[T7,dB,vR hl,pM,aS hi];unfold La.push;split
   ·show(La.kV 0 ((ls.getD i La.zero).l++[o.2]):Int)<=_;rw[La.od,aS Q];omega
   ·show((0:Nat):Int)<=_;omega
  ·rw[dB,uK (by omega),<-dB,aO hi];omega
 ·split<;>omega
theorem pI(o:Int×Fr)(Z:List (Int×Fr))(l:Int):V.fY (o::Z) l=V.fY Z l+if o.1=l then 1 else 0:=by
 unfold V.fY;rw[List.filter_cons];by_cases h:o.1=l<;>simp[h]
theorem xh:∀ {Z:List (Int×Fr)} {ls:List La},(∀x∈ls,qw a c x)->c<=d/\d<=20->(∀o∈Z,(0<=o.1/\o.1<(ls.length:Int))/\o.2.kind=0)->(∀i:Nat,i<ls.length->0<V.fY Z i->(La.kV 0 (ls.getD i La.zero).l:Int)+V.fY Z i<=c)->V.du (ls.map (La.bQ d)) Z=(V.du ls Z).map (La.bQ d)
 |[],_,_,_,_,_=>rfl
 |o::Z,ls,h,hd,ho,hf=>by
  obtain⟨o1,ok⟩:=ho o (by simp);have hm:=(EB Z o.1).1;have h0:=hf o.1.toNat (by omega) (by rw[Int.toNat_of_nonneg o1.1,pI,aS rfl];omega);rw[Int.toNat_of_nonneg o1.1,pI,aS rfl] at h0;have F:=xg (d:=d) h hd o1 (.inr (by omega));obtain⟨R,h3⟩:=yb h o1;show V.du (V.lj (ls.map (La.bQ d)) o) Z=_;rw[F];refine xh R hd (λo q=>by rw[h3];exact ho o (by simp[q])) λi hi xH=>?_;rw[h3] at hi;have h4:=N' (ls:=ls) o1 ok i;have h5:=hf i hi (by rw[pI];split<;>omega);rw[pI] at h5;omega
theorem Tc{x:La}{n:Int}(h:La.fits x n=true)(hn:0<n):(La.kV 0 x.l:Int)+n<=x.cap:=by
 unfold La.fits at h;simp only[lY,dC] at h;omega
theorem IU{x:La}{n:Int}(h:La.fits x n=true)(hd:x.cap<=d):La.fits (La.bQ d x) n=true:=by
 unfold La.fits La.bQ at *;simp only[lY,dC] at *;omega
theorem Cw{Z:List (Int×Fr)}(h:∀x∈ls,qw a c x)(hd:c<=d)(ho:∀o∈Z,0<=o.1/\o.1<(ls.length:Int))(hf:V.jn ls Z=true):V.jn (ls.map (La.bQ d)) Z=true:=by
 unfold V.jn at *;rw[eT] at *;intro o q;have hi:o.1.toNat<ls.length:=by have:=ho o q;omega
 rw[tm hi];exact IU (hf o q) (by rw[(h _ (nK hi)).c];exact hd)
theorem F6{Z:List (Int×Fr)}(h:∀x∈ls,qw a c x)(hf:V.jn ls Z=true):∀i:Nat,i<ls.length->0<V.fY Z i->(La.kV 0 (ls.getD i La.zero).l:Int)+V.fY Z i<=c:=λi hi hm=>by
 unfold V.jn at hf;rw[eT] at hf;have:∃o∈Z,o.1=(i:Int):=by
  unfold V.fY at hm;have:0<(Z.filter λo=>o.1==(i:Int)).length:=by omega
  obtain⟨o,ho⟩:=List.exists_mem_of_length_pos this;rw[List.mem_filter] at ho;exact⟨o,ho.1,by simpa using ho.2⟩
 obtain⟨o,ho,e⟩:=this;have:=hf o ho;rw[e,dG] at this;have:=Tc this hm;rwa[(h _ (nK hi)).c] at this
theorem Li(x:La)(i:Int):La.can (La.bQ d x) i=La.can x i:=rfl
theorem F7(x:La)(i:Int):La.mN (La.bQ d x) i=La.mN x i:=rfl
theorem F8(x:La)(i:Int):La.nz (La.bQ d x) i=La.nz x i:=rfl
theorem IV{x:La}{i:Int}(h:La.mN x i=0):La.take (La.bQ d x) i=La.bQ d (La.take x i):=by
 have hc:La.can x i=true:=by
  unfold La.mN at h;by_cases q:La.can x i=true
  ·exact q
  ·rw[aO q] at h;cases h
 unfold La.take;rw[Li,aS hc,aS hc];rfl
theorem uF(a:Ap)(t:Nt)(w:Wk)(l:Int)(f:Fr):V.report a (t.bQ d) w l f=((V.report a t w l f).1,(V.report a t w l f).2.bQ d):=by
 unfold V.report;split
 ·rfl
 ·split
  ·rfl
  ·split<;>rfl
theorem Dq(h:dZ a N c k t)(ha:fy a N)(hd:c<=d/\d<=20)(n j:Int)(h6:(V.gU a t n j).1≠6):V.gU a (t.bQ d) n j=((V.gU a t n j).1,(V.gU a t n j).2.bQ d):=by
 cases hh:V.has t n
 ·have Qx:V.has (t.bQ d) n=false:=hh;unfold V.gU;rw[aS hh,aS Qx]
 ·have Qx:V.has (t.bQ d) n=true:=hh;obtain⟨x,D,hg⟩:=yd hh;have Gg:(t.bQ d).nodes.getD n.toNat V.oH=x:=hg;rcases vG ha (h.nd _ x D) j with⟨x',Z,e,i1,i2,i3⟩|⟨e',e1,e⟩
  ·rw[pG hh hg e] at h6⊢;rw[pG Qx Gg e];cases hf:V.jn t.aX Z
   ·rw[hf] at h6;exact absurd rfl h6
   ·have ho:∀o∈Z,(0<=o.1/\o.1<(t.aX.length:Int))/\o.2.kind=0:=λo q=>by rw[h.ll];exact i3 o q
    have PE:V.jn (t.bQ d).aX Z=true:=Cw h.la hd.1 (λo q=>(ho o q).1) hf;rw[aS PE,aS rfl];show((0:Int),(⟨V.du (t.aX.map (La.bQ d)) Z,t.nodes.set n.toNat x',t.aC,t.root,t.dp⟩:Nt))=(0,⟨(V.du t.aX Z).map (La.bQ d),t.nodes.set n.toNat x',t.aC,t.root,t.dp⟩);rw[xh h.la hd ho (F6 h.la hf)]
  ·rw[rz hh hg e e1,rz Qx Gg e e1]
theorem ye(h:dZ a N c k t)(ha:fy a N)(hd:c<=d/\d<=20)(n j:Int):V.cS a (t.bQ d) n j=((V.cS a t n j).1,(V.cS a t n j).2.1,(V.cS a t n j).2.2.bQ d):=by
 unfold V.cS;dsimp only;have e1:(t.bQ d).aX.length=t.aX.length:=ic ..;rw[e1];split
 ·rfl
 ·next hn=>
  have Hj:n.toNat<t.aX.length:=by omega
  have e2:(t.bQ d).aX.getD n.toNat La.zero=La.bQ d (t.aX.getD n.toNat La.zero):=tm Hj;rw[e2,F7,F8];split
  ·rfl
  ·next he=>
   have sf:La.mN (t.aX.getD n.toNat La.zero) j=0:=by simpa using he
   obtain⟨e0,kn,x,F,R,h3,h4,h5⟩:=h.link ha (ln:=n.toNat) (by rw[<-h.ll];exact Hj);have hr:=vH (h.la _ (nK (d:=La.zero) Hj)).r sf;have e3:(t.bQ d).nodes=t.nodes:=rfl;rw[e3,R,dG,getD_eq h4,AN];cases hw:V.pE a (V.lR x) n (La.nz (t.aX.getD n.toNat La.zero) j) with
   |error e=>rfl
   |ok w=>
    have Ta:=ya ha h3 h5 (show Lk a n from⟨by omega,by rw[<-h.ll];omega⟩) hr.2.2.2.1 hw;have rW:∀y∈t.aX.set n.toNat (La.take (t.aX.getD n.toNat La.zero) j),qw a c y:=λy q=>by
     rcases kJ q with q|rfl
     ·exact h.la y q
     ·have h0:=h.la _ (nK (d:=La.zero) Hj);exact⟨hr.2.2.2.2.1,hr.2.2.2.2.2.1.trans h0.c,hr.2.2.2.2.2.2.trans h0.f⟩
    have e4:V.du ((t.bQ d).aX.set n.toNat (La.take (La.bQ d (t.aX.getD n.toNat La.zero)) j)) w.Z=(V.du (t.aX.set n.toNat (La.take (t.aX.getD n.toNat La.zero) j)) w.Z).map (La.bQ d):=by
     rw[IV sf];show V.du ((t.aX.map (La.bQ d)).set n.toNat (La.bQ d (La.take (t.aX.getD n.toNat La.zero) j))) w.Z=_;rw[<-wk];exact lT rW hd λo q=>by rw[fG,h.ll];exact Ta.o o q
    dsimp only;rw[e4];have:=uF (d:=d) a {t with aX:=V.du (t.aX.set n.toNat (La.take (t.aX.getD n.toNat La.zero) j)) w.Z,nodes:=t.nodes.set kn w.x} w n (La.nz (t.aX.getD n.toNat La.zero) j);exact fS (Prod.mk 0) this
theorem Cx(h:dZ a N c k t)(ha:fy a N)(hd:c<=d/\d<=20)(n:Int):V.ed a (t.bQ d) n=((V.ed a t n).1,(V.ed a t n).2.1,(V.ed a t n).2.2.bQ d):=by
 unfold V.ed;dsimp only;have e1:V.has (t.bQ d) n=V.has t n:=rfl;have e2:(t.bQ d).root=t.root:=rfl;have e3:(t.bQ d).aC=t.aC:=rfl;have e4:(t.bQ d).nodes=t.nodes:=rfl;rw[e1,e2,e3,e4];split
 ·rfl
 ·next hh=>
  split
  ·rfl
  ·split
   ·rfl
   ·obtain⟨x,D,hg⟩:=yd (t:=t) (n:=n) (by simpa using hh);rw[hg,show V.start a x (t.aC+1)=V.kY a (V.lR x) (t.aC+1) from rfl];cases hw:V.kY a (V.lR x) (t.aC+1) with
    |error e=>rfl
    |ok w=>
     have Ta:=vD ha (by rw[<-h.nl];exact(eD.1 D).1) (h.nd _ x D) hw;have e5:V.du (t.bQ d).aX w.Z=(V.du t.aX w.Z).map (La.bQ d):=lT h.la hd λo q=>by rw[h.ll];exact Ta.o o q
     dsimp only;rw[e5];have:=uF (d:=d) a {t with aC:=t.aC+1,root:=n,nodes:=t.nodes.set n.toNat w.x,aX:=V.du t.aX w.Z} w 0 Fr.zero;have e7:({aX:=(V.du t.aX w.Z).map (La.bQ d),nodes:=t.nodes.set n.toNat w.x,aC:=t.aC+1,root:=n,dp:=(t.bQ d).dp}:Nt)=({t with aC:=t.aC+1,root:=n,nodes:=t.nodes.set n.toNat w.x,aX:=V.du t.aX w.Z}:Nt).bQ d:=rfl;rw[e7,this]
theorem Cy(h:dZ a N c k t)(ha:fy a N)(hd:c<=d/\d<=20)(n:Int):V.ft a (t.bQ d) n=((V.ft a t n).1,(V.ft a t n).2.bQ d):=by
 unfold V.ft;dsimp only;have e1:V.has (t.bQ d) n=V.has t n:=rfl;have e2:(t.bQ d).dp=t.dp:=rfl;have e4:(t.bQ d).nodes=t.nodes:=rfl;have e5:((t.bQ d).aX.any λl=>decide (0<La.kV 6 l.l))=t.aX.any λl=>decide (0<La.kV 6 l.l):=by
  show((t.aX.map (La.bQ d)).any λl=>decide (0<La.kV 6 l.l))=_;rw[List.any_map];rfl
 rw[e1,e2,e4,e5];split
 ·rfl
 ·next hh=>
  split
  ·rfl
  ·split
   ·rfl
   ·split
    ·rfl
    ·obtain⟨x,D,hg⟩:=yd (t:=t) (n:=n) (by simpa using hh);rw[hg];obtain⟨q1,q2⟩:=yc ha (h.nd _ x D) (t.dp+1);have e6:V.du (t.bQ d).aX (V.fD a x.h (t.dp+1)).2=(V.du t.aX (V.fD a x.h (t.dp+1)).2).map (La.bQ d):=lT h.la hd λo q=>by rw[h.ll];exact q1 o q
     rw[e6];rfl
theorem Q1(a:Ap)(p:V.qz)(x:Int×Int×Int):∃e,(V.act a p x).jB=p.jB++[e]:=by
 unfold V.act;split
 ·exact⟨_,rfl⟩
 ·split
  ·exact⟨_,rfl⟩
  ·split<;>exact⟨_,rfl⟩
theorem Lj(ha:fy a N){p:V.qz}(h:dZ a N c k p.fJ)(hd:c<=d/\d<=20)(x:Int×Int×Int)(h6:6∉(V.act a p x).jB):V.act a (p.bQ d) x=(V.act a p x).bQ d:=by
 unfold V.act at h6⊢;have e:(p.bQ d).fJ=p.fJ.bQ d:=rfl;rw[e];split
 ·next q=>
  rw[aS q] at h6;dsimp only at h6;rw[Dq h ha hd _ _ (λq=>h6 (by rw[q];simp))];rfl
 ·split
  ·rw[ye h ha hd];rfl
  ·split
   ·rw[Cx h ha hd];rfl
   ·rw[Cy h ha hd];rfl
theorem EI(a:Ap):∀(cI:List (Int×Int×Int))(p:V.qz),∃l,(cI.foldl (V.act a) p).jB=p.jB++l
 |[],p=>⟨[],by simp⟩
 |x::cI,p=>by
  obtain⟨l,hl⟩:=EI a cI (V.act a p x);obtain⟨e,he⟩:=Q1 a p x;exact⟨[e]++l,by rw[kK,hl,he,qH]⟩
theorem yO(ha:fy a N)(hd:c<=d/\d<=20):∀(cI:List (Int×Int×Int))(k:Nat)(p:V.qz),dZ a N c k p.fJ->6∉(cI.foldl (V.act a) p).jB->cI.foldl (V.act a) (p.bQ d)=(cI.foldl (V.act a) p).bQ d
 |[],_,_,_,_=>rfl
 |x::cI,k,p,h,h6=>by
  rw[kK] at h6⊢;have h7:6∉(V.act a p x).jB:=λq=>by
   obtain⟨l,hl⟩:=EI a cI (V.act a p x);exact h6 (by rw[hl];exact EU _ q)
  rw[Lj ha h hd x h7];exact yO ha hd cI (k+1) _ (h.act ha x) h6
theorem IW(ha:fy a N):∀(cI:List (Int×Int×Int))(k:Nat)(p:V.qz),dZ a N c k p.fJ->dZ a N c (k+cI.length) (cI.foldl (V.act a) p).fJ
 |[],k,p,h=>h
 |x::cI,k,p,h=>by
  have:=IW ha cI (k+1) _ (h.act ha x);rw[kK,fF,show k+(cI.length+1)=k+1+cI.length by omega];exact this
theorem IX(ha:fy a N)(hc:1<=c)(hd:c<=d/\d<=20)(cI:List (Int×Int×Int))(h6:6∉(V.kW a c cI).jB):V.kW a d cI=(V.kW a c cI).bQ d:=by
 have e:(⟨[],[],[],V.rO a d⟩:V.qz)=(⟨[],[],[],V.rO a c⟩:V.qz).bQ d:=by
  unfold V.qz.bQ Nt.bQ V.rO;rw[List.map_replicate];rfl
 unfold V.kW at *;rw[e];exact yO ha hd cI 0 _ (dZ.new ha ⟨hc,by omega⟩) h6
theorem IY(a:Ap)(t:Nt):V.wS a (t.bQ d)=V.wS a t:=by
 unfold V.wS Nt.bQ;dsimp only;rw[List.map_map,ic];rfl
end
theorem IZ{w:World}{S:Nat->Prop}{cs:List Value}{x:Nd}(h:Y.nd.is false w S cs x):cs[1]?=some (.int .i64 x.h.state)/\∃v0 v1,cs.take 5=[.int .i64 x.h.node,.int .i64 x.h.state,.int .i64 x.h.steps,v0,v1]/\Y.ho.is false w S (cs.take 5) x.h:=by
 obtain⟨v0,v1,v2,v3,v4,v5,v6,v7,v8,v9,v10,v11,rfl,h0,F,-⟩:=h;exact⟨rfl,v0,v1,rfl,v0,v1,rfl,h0,F⟩
structure CoP(a:Ap)(t:Nt):Prop where
 L:a.az.length<=1000
 ll:t.aX.length=a.az.length
 nl:t.nodes.length<=1000
 l25:∀x∈t.aX,x.l.length<=25
 nd:∀(i:Nat)(e:Int×Int),a.az[i]?=some e->∃(kn:Nat)(x:Nd),e.1=(kn:Int)/\t.nodes[kn]?=some x/\x.h.Z.length=(Gr.outs a.az x.h.node).length
def V.Ll(a:Ap)(t:Nt)(i:Nat):Int:=V.y9 a (t.nodes.getD (Gr.at_ a.az i).1.toNat V.oH).h i
theorem bU.az{w:World}{lo:Nat}{a:Ap}{t:Nt}{s:NA}(h:bU w lo a t s):ay Y.msg false w (DS w s) (.slice s.gA a.az.length s.gk) a.az:=by
 obtain⟨A0,A1,k0,k1,e,h0,-⟩:=h.ap.ap;have q:Value.slice s.gA a.az.length s.gk=.slice A0 a.az.length k0:=by
  injection e with e
  have:=fS (λl:Array Value=>l[1]?) e;simpa using this
 rw[q];exact h0
theorem ZN(lo:Nat)(a:Ap)(t:Nt)(s:NA)(w:World)(hN:bU w lo a t s)(hP:CoP a t):
 Calls prog 20 #[.pointer s.nb] w λy w'=>(∃v,y=.returned v/\da Y.cf w' (bO w.1.size w'.1.size) v (V.wS a t))/\aY w w':=by
 have iK:=hN.box.lt;have ajL:=hP.nl;have ajM:t.aX.length<=1000:=by rw[hP.ll];exact hP.L
 obtain⟨gN,cN,sg,_,_⟩:=hN.rN.form;obtain⟨gA,cA,qF,_,_⟩:=hN.rA.form;have HN:=U hN;replace hP:=U hP;clear hN;replace sg:=U sg;replace qF:=U qF;go_in;go_upto_region 2 with fail
 refine r9 λW1 b2 b3 J=>?_;have k6:W1.cell? ⟨s.nb,6,none⟩=some (.slice gN t.nodes.length cN):=by rw[aD (HN.next J).box 6,<-sg.Z];rfl
 go_wp2;clear k6;go_loopg [5,13] t.nodes.length (λq _ i wr=>∃(j:Nat)(gS:Option Addr)(kS:Nat)(ss:List Int),i=.int .i64 (j:Int)/\j<=t.nodes.length/\q=t.nodes.length-j/\aK (ss=(t.nodes.take j).map λx=>x.h.state)/\G wr w.1.size #[(),(),()] 39/\G wr (w.1.size+1) #[.slice gS j kS,(),()] 39/\cj Y.int 3 (w.1.size+2) wr (λ_=>False) (.slice gS j kS) ss/\aY w wr)
 case atStart=>exact⟨0,none,0,[],rfl,by omega,by omega,U rfl,b2,b3,cj.nil _ _ _ _ _,J⟩
 case round=>
  clear b2 b3 J;obtain⟨j,gS,kS,ss,rfl,hj,Q,Nw,b2,b3,hS,J⟩:=hrel;have Hk:=U Q;clear Q;have sB:=J.size;have b3l:=b3.lt;have rK:ss.length=j:=by rw[Nw.Z,ic,dL];omega
  change aK _ at rK;by_cases bY:j<t.nodes.length
  case neg=>
   obtain rfl:j=t.nodes.length:=by omega
   obtain⟨w0,rfl⟩:∃W,W=wr:=⟨_,rfl⟩;have hN:=HN.next J;have k0:w0.cell? ⟨s.nb,0,none⟩=some (.slice gA t.aX.length cA):=by rw[aD hN.box 0,<-qF.Z];rfl
   obtain⟨lo2,vi⟩:=cJ w0.1.size;have Y7:=U J;have B20:=U b2;have ZO:=b2.lt;replace hS:=U hS;clear J b2 hN;go_wp2;clear k0;go_loopg [6,7,32] t.aX.length (λq _ _ i wx=>∃(j:Nat)(gL gC:Option Addr)(kL kC:Nat)(ms:List (List (Int×Int)))(cs:List Int),i=.int .i64 (j:Int)/\j<=t.aX.length/\q=t.aX.length-j/\aK (ms=(t.aX.take j).map La.msgs)/\aK (cs=(List.range j).map (V.Ll a t))/\G wx (w.1.size+1) #[.slice gS t.nodes.length kS,.slice gL j kL,.slice gC j kC] 39/\pj lo2 wx (.slice gC j kC) (.slice gL j kL) cs ms/\w0.grownBy wx (some (w.1.size+1)))
   case atStart=>exact⟨0,none,none,0,0,[],[],rfl,by omega,by omega,U rfl,U rfl,b3,⟨cj.nil _ _ _ _ _,cj.nil _ _ _ _ _⟩,ka _ _⟩
   case round=>
    clear b3 Hk;obtain⟨j,gL,gC,kL,kC,ms,cs,rfl,hj,Q,LO,jr,b3,hT,hG⟩:=hrel;replace Q:=U Q;have sG:=hG.size;have aea:=b3.lt;have qT:ms.length=j:=by rw[LO.Z,ic,dL];omega
    have nN:cs.length=j:=by rw[jr.Z,ic,List.length_range]
    change aK _ at qT nN;have J:aY w wr:=Y7.grown hG (by omega) (λk e=>by injection e;omega);have b2:G wr w.1.size #[(),(),()] 39:=(hG.block _ ZO (λe=>by injection e;omega)).trans B20.Z;by_cases bY:j<t.aX.length
    case neg=>
     obtain rfl:j=t.aX.length:=by omega
     have NF:da Y.cf wr (λb=>w.1.size+2<=b/\b<wr.1.size) (.agg #[.slice gS t.nodes.length kS,.slice gL t.aX.length kL,.slice gC t.aX.length kC]) (V.wS a t):=by
      have q0:=(hS.aE (w':=wr) λb q=>q.elim False.elim λq=>hG.block b (hS.lt b q).2 λe=>by injection e;have:=(hS.lt b q).1;omega).on (S':=λb=>w.1.size+2<=b/\b<wr.1.size) (λb q=>q.elim) λb e=>⟨(hS.lt b e).1,by have:=(hS.lt b e).2;omega⟩;have q1:=hT.2.on (S':=λb=>w.1.size+2<=b/\b<wr.1.size) (λb q=>⟨by have:=q.1;omega,q.2.1⟩) (λb e=>⟨by have:=(hT.2.lt b e).1;omega,(hT.2.lt b e).2⟩);have q2:=hT.1.on (S':=λb=>w.1.size+2<=b/\b<wr.1.size) (λb q=>q.elim) (λb e=>⟨by have:=(hT.1.lt b e).1;omega,(hT.1.lt b e).2⟩);have e:V.wS a t=⟨ss,ms,cs⟩:=by rw[Nw.Z,LO.Z,jr.Z,iw,iw];rfl
      rw[e];exact da.XI (p:=⟨ss,ms,cs⟩) q0 q1 q2
     replace J:=U J;clear hT hG;obtain⟨kc,kf,kl⟩:=b3.open_;obtain⟨qc,qf,ql⟩:=b2.open_;go_wp2;clear kc kf kl;refine bL (v:=.agg #[.slice gS t.nodes.length kS,.slice gL t.aX.length kL,.slice gC t.aX.length kC]) (by simp[results,results20,go_sem,qc,ql]) rfl ?_;refine⟨⟨_,rfl,(NF.aE λb q=>?_).aF λb q=>⟨by omega,by simp[World.setCell];omega⟩⟩,((J.setCell bE _).setCell bE _).setCell bE _⟩;exact(dF _ _ _ _ (by simp;omega)).trans ((dF _ _ _ _ (by simp;omega)).trans (dF _ _ _ _ (by simp;omega)))
    have VQ:j<a.az.length:=by rw[<-hP.ll];exact bY
    obtain⟨y,hy⟩:=Pc.get_at bY;obtain⟨⟨e1,e2⟩,yz⟩:=Pc.get_at VQ;obtain⟨kn,x,he,Gp,Gq⟩:=hP.nd j _ yz;dsimp only at he;subst he;obtain⟨gv,hgv⟩:=cJ (V.y9 a x.h (j:Int));have ZP:V.Ll a t j=gv:=by
     unfold V.Ll Gr.at_;rw[getD_eq yz];show V.y9 a (t.nodes.getD (kn:Int).toNat V.oH).h j=gv;rw[dG,getD_eq Gp,hgv]
    have T0:kn<t.nodes.length:=(eD.1 Gp).1;have HY:=U hy;have HLK:=U yz;replace Gp:=U Gp;replace Gq:=U Gq;change aK _ at hgv ZP;clear yz;have hN:=HN.next J;obtain⟨gY,cY,ys,hvY,QJ,sy,rngY,-⟩:=hN.rA.get hy;have oy:ys.toArray.all (·.oneCell')=true:=all_oneCell_toArray (Y.la.one QJ);obtain⟨rfl,-,rfl⟩:gA=some ⟨gY,0,none⟩/\t.aX.length=t.aX.length/\cA=cY:=by have:=qF.symm.trans hvY;injection this with q1 q2 q3;exact⟨q1,q2,q3⟩
    replace QJ:=U QJ;replace hT:=U hT;replace hG:=U hG;replace J:=U J;replace b3:=U b3;clear hvY hN hy b2;go_upto_region 10 with(first |refine wpList_load_mid rfl 105 (.tmp 35) rfl gY (j * 3) rfl ys _ rngY underlying105 rfl (by rw[sy];kernel_rfl) ?_|(refine wpList_store_mid rfl 105 (.tmp 7) (.tmp 36) rfl wr.1.size 0 ys.toArray rfl rfl ((G.new wr _ _).cR (n:=ys.toArray.size) (by simp[sy,Y.la])) (by rw[jN,sy];kernel_rfl) oy ?_;rw[aH]))
    refine bK λW4 hW=>?_;have bl:G W4 wr.1.size ys.toArray 105:=G.eqv hW ((G.new wr _ _).cm ys.toArray (by simp[sy,Y.la]));have ob:aY wr W4:=Below.eqv hW (aI bE _ _ _ (cT.alloc bE _));clear hW rngY oy;have b34:=b3.next ob;have hT4:=hT.next ob;have hG4:=aN hG.Z (aT ob);have Gm:=dW J.Z ob;have z4:=ob.size;clear hT hG J b3;refine rg 8 λW5 I K=>?_;have X0:=hT4.next I;have b35:=b34.next I;have Td:=aN hG4 (aT I);have bl5:=bl.next I;have tV:=dW Gm I;have z5:=I.size;have ZQ:=U b35;have T4:=U tV;have ajP:=bl5.lt;have ajQ:=b35.lt;obtain⟨-,-,zs,-,nZ,-,-,-⟩:=(HN.next tV).rA.get HY.Z;have hly:kz W5 (DS W5 s) (.agg ys.toArray) y:=kz.of (Y.la.aF (Y.la.aE QJ.Z λb q=>(ob.trans (I.mono (by omega))).block b q.lt) λb q=>DS.up (by omega) b q);replace X0:=U X0;replace Td:=U Td;replace hly:=U hly;clear I ob tV hT4 hG4 Gm bl b34;refine aG [2] 7 ?_;go_wp2_with (refine wpList_load_mid rfl 105 (.tmp 7) rfl wr.1.size 0 rfl ys _ (bl5.bO (n:=3) (by simp[jL,sy,Y.la])) underlying105 rfl (by rw[sy];kernel_rfl) ?_);have O:=ch b35;refine rJ [0,1] 5 ?_;go_wp2;refine iJ ?_;clear O;refine oN 3 ?_;go_wp2_with fail;have hF5:(∀b,(Value.slice gC j kC).ownBlock=some b->b<W5.1.size)/\∀b,(Value.slice gL j kL).ownBlock=some b->b<W5.1.size:=⟨λb e=>(X0.1.lt b e).2,λb e=>(X0.2.lt b e).2⟩;change aK _ at hF5;refine(JY _ y W5 (hly.Mx λb q=>q.lt) (by have:=hP.l25 y (dV HY.Z);omega)).mono ?_;rintro _ w6 ⟨⟨u,rfl,hu⟩,I⟩;have hT6:=X0.next I;have b36:=ZQ.next I;have hG6:=aN Td.Z (aT I);replace K:=K.Gt I;have z6:=I.size;have DU:=hu.on.soft;obtain⟨uA,uk,rfl,_⟩:=id DU;replace DU:=U DU;replace hT6:=U hT6;replace hG6:=U hG6;replace b36:=U b36;clear hu I X0 Td ZQ b35 bl5;go_wp2;refine⟨λ_=>K,?_⟩;refine aG [4] 3 ?_;go_wp2;refine fX ?_;refine Go.Proofs.YtmgahjkopiaglaaGreat.nb λW7 bm I=>?_;have ZR:=b36.next I;have WO:=hT6.next I;have hG7:=aN hG6.Z (aT I);have z7:=I.size;have hu7:ay Y.msg false W7 (XN lo2 W7 (.slice gC j kC) (.slice gL j kL)) (.slice uA (La.msgs y).length uk) (La.msgs y):=(DU.aE λb q=>I.block b (bO.hi q)).aF λb q=>⟨by have:=bO.lo q;omega,by have:=bO.hi q;omega,λe=>by have:=(hF5.1 b e);have:=bO.lo q;omega,λe=>by have:=(hF5.2 b e);have:=bO.lo q;omega⟩;have ajR:=ZR.lt;replace WO:=U WO;replace hG7:=U hG7;replace ZR:=U ZR;clear I hT6 hG6 b36;refine oN 5 ?_;go_wp2_with (at_builtin;refine dv (r:=Y.msg.slice) (y:=La.msgs y) rfl (.tmp 38) (.tmp 41) 37 rfl lo2 93 Tryz.tX underlying37 rfl (by omega) (.slice gL j kL) rfl WO.2 (λb q=>q.2.1) (by omega) 1 w6.1.size [.slice uA (La.msgs y).length uk] rfl bm ⟨_,rfl,hu7⟩ (by have:=qT.Z;have:=hP.ll;have:=hP.L;omega) ?_;intro v8 w8 GA hg8 mW lp);first |change aV _ _ _ _ _ _ _ _ _ _|refine⟨λh=>absurd h (by decide),?_⟩
    have ZS:=WO.two GA hg8 lp;obtain⟨gL8,kL8,rfl,_,_⟩:=GA.form;rw[dh,qT.Z,j'] at ZS;simp only[dh,j',qT.Z];have b38:=ZR.grown hg8 λe=>by have:=(WO.2.lt _ e).1;omega
    have hG8:=jZ hG7.Z hg8 λk e=>by have:=(WO.2.lt k e).1;omega
    have z8:=hg8.size;replace ZS:=U ZS;replace hG8:=U hG8;have B38:=U b38;clear GA hg8 mW lp WO hG7 ZR bm K;have O:=ch b38;refine aG [6,7] 0 ?_;go_wp2;refine fX ?_;clear O;clear sy;refine cd λW9 hW=>?_;refine eN ?_;have Te:bH (w.1.size+1) w8 W9:=bH.eqv hW ((bH.refl _ _).bd 1 _);have I0:G W9 (w.1.size+1) #[.slice gS t.nodes.length kS,.slice gL8 (j+1) kL8,.slice gC j kC] 39:=G.eqv hW (b38.bd 1 _);have z9:=Te.size;have Js:w0.grownBy W9 (some (w.1.size+1)):=hW▸aN hG8.Z (cU 1 _);have hT9:pj lo2 W9 (.slice gC j kC) (.slice gL8 (j+1) kL8) cs (ms++[La.msgs y]):=ZS.same (ca Te.size.symm) λb q _=>Te.block b (by omega);have pS:aY w W9:=Y7.grown Js (by omega) (λk e=>by injection e;omega);clear hW Te ZS hG8 B38 b38;go_wp2;refine rg 16777216 λrq I K=>?_;have Tf:=hT9.next I;have I1:=I0.next I;have Dr:=aN Js (aT I);have Tg:=dW pS I;have z12:=I.size;have Dn:=HN.next Tg;obtain⟨gZ,cZ,zs,hvZ,nZ,sz,rngZ,-⟩:=Dn.rN.get Gp.Z;obtain⟨rfl,-,rfl⟩:gN=some ⟨gZ,0,none⟩/\t.nodes.length=t.nodes.length/\cN=cZ:=by have:=sg.symm.trans hvZ;injection this with q1 q2 q3;exact⟨q1,q2,q3⟩
    have k6:rq.cell? ⟨s.nb,6,none⟩=some (.slice gZ t.nodes.length cN):=by rw[aD Dn.box 6,<-sg.Z];rfl
    have yz:=Dn.az;obtain⟨gQ,oQ,eQ,-,e0,-⟩:=dm.yY yz.arr HLK.Z;have k3:rq.cell? ⟨s.nb,3,none⟩=some (.slice (some ⟨gQ,oQ,none⟩) a.az.length s.gk):=by rw[aD Dn.box 3,<-eQ];rfl
    dsimp only at e0;obtain⟨cA4,o4⟩:=cJ (#[Value.int .i64 a.n,.slice s.gA a.az.length s.gk,.slice s.TA a.T.length s.Tk,.bool a.bF]);have sA:cA4.size=4:=by rw[<-o4];rfl
    have po:da Y.ap rq (DS rq s) (.agg cA4) a:=by rw[<-o4];exact Dn.ap
    have rA:rq.rangeAt s.nb 2 cA4.toList:=Dn.box.bO (n:=4) (by rw[<-o4];kernel_rfl);obtain⟨hs,hhs⟩:=cJ (zs.take 5);have sH:hs.length=5:=by rw[<-hhs,dL,sz];rfl
    have rH:rq.rangeAt gZ (kn * 28) hs:=λi v hv=>rngZ i v (by rw[<-hhs,zX] at hv;split at hv<;>first |exact hv|cases hv);have hho:da Y.ho rq (DS rq s) (.agg hs.toArray) x.h:=by rw[<-hhs];obtain⟨-,-,-,-,q⟩:=IZ nZ;exact⟨_,rfl,q⟩
    have UR:=U I1;have aea:=I1.lt;replace Tf:=U Tf;replace Dr:=U Dr;clear I Tg hT9 Js pS I0 o4 hhs yz nZ sz rngZ hvZ Dn eQ;refine tS 0 ?_;refine tS 2 ?_;refine tS 3 ?_;refine tS 4 ?_;refine tS 6 ?_;refine tS 7 ?_;refine aG [10] 22 ?_;go_wp2;refine sJ 11 ?_;refine aG [5,8,9,12,13,14,15,16,17,18,19,20,21,22,23] 6 ?_;go_wp2_with (first |refine wpList_load_mid rfl 27 (.tmp 48) rfl s.nb 2 rfl cA4.toList _ rA underlying27 rfl (by rw[eK,sA];kernel_rfl) ?_|refine wpList_load_mid rfl 109 (.tmp 65) rfl gZ (kn * 28) rfl hs _ rH underlying109 rfl (by rw[sH];kernel_rfl) ?_);clear k6 k3 e0 rA rH;have O:=ch I1;refine rJ [1] 5 ?_;go_wp2;refine iJ ?_;clear O;refine oN 24 ?_;go_wp2_with fail;refine(BM _ _ a x.h (j:Int) rq (DS rq s) (λb q=>q.lt) po hho hP.L Gq.Z).mono ?_;rintro _ w13 ⟨rfl,I⟩;rw[hgv.Z];have Th:=Tf.next I;have Ti:=UR.next I;have Tj:=aN Dr.Z (aT I);replace K:=K.Gt I;have z13:=I.size;replace Th:=U Th;replace Tj:=U Tj;replace Ti:=U Ti;clear I Tf Dr UR I1 po hho;go_wp2;refine⟨λ_=>K,?_⟩;refine aG [25] 3 ?_;go_wp2;refine fX ?_;refine Go.Proofs.YtmgahjkopiaglaaGreat.nb λW14 bm I=>?_;have Q2:=Ti.next I;have Lm:=Th.next I;have Tl:=aN Tj.Z (aT I);have z14:=I.size;have agN:=Q2.lt;replace Lm:=U Lm;replace Tl:=U Tl;replace Q2:=U Q2;clear I Th Tj Ti;refine oN 26 ?_;go_wp2_with (at_builtin;refine dv (r:=Y.int) (y:=gv) rfl (.tmp 45) (.tmp 69) 36 rfl lo2 3 Tryz.eG underlying36 rfl (by omega) (.slice gC j kC) rfl Lm.1 (λ_ q=>q.elim) (by omega) 1 w13.1.size [gv] rfl bm rfl (by have:=nN.Z;have:=hP.ll;have:=hP.L;omega) ?_;intro v8 w15 GA hg8 mW lp);first |change aV _ _ _ _ _ _ _ _ _ _|refine⟨λh=>absurd h (by decide),?_⟩
    have Tm:=Lm.one GA hg8 lp;obtain⟨gC8,kC8,rfl,_,_⟩:=GA.form;rw[dh,nN.Z,j'] at Tm;simp only[dh,j',nN.Z];have Tn:=Q2.grown hg8 λe=>by have:=(Lm.1.lt _ e).1;omega
    have WQ:=jZ Tl.Z hg8 λk e=>by have:=(Lm.1.lt k e).1;omega
    have z15:=hg8.size;replace Tm:=U Tm;replace WQ:=U WQ;have ajT:=U Tn;clear GA hg8 mW lp Lm Tl Q2 bm K;have O:=ch Tn;refine aG [27,28] 0 ?_;go_wp2;refine fX ?_;clear O;refine cd λRN hW=>?_;refine eN ?_;have cW:bH (w.1.size+1) w15 RN:=bH.eqv hW ((bH.refl _ _).bd 2 _);have aee:G RN (w.1.size+1) #[.slice gS t.nodes.length kS,.slice gL8 (j+1) kL8,.slice gC8 (j+1) kC8] 39:=G.eqv hW (Tn.bd 2 _);have aef:w0.grownBy RN (some (w.1.size+1)):=hW▸aN WQ.Z (cU 2 _);have aeg:=Tm.same (ca cW.size.symm) λb q _=>cW.block b (by omega);clear hW cW Tn;go_wp2;go_roundg (t.aX.length-(j+1))
    case rel=>
     refine⟨j+1,gL8,gC8,kL8,kC8,ms++[La.msgs y],cs++[gv],by simp,by omega,rfl,U ?_,U ?_,aee,aeg,aef⟩
     ·rw[LO.Z,Pc.de HY.Z,jP];rfl
     ·rw[jr.Z,List.range_succ,jP,List.map_singleton,ZP.Z]
    case measure=>have:=Q.Z;omega
  obtain⟨x,D⟩:=Pc.get_at bY;have hN:=HN.next J;obtain⟨gX,cX,xs,hvX,sa,sx,rngX,-⟩:=hN.rN.get D;have ox:xs.toArray.all (·.oneCell')=true:=all_oneCell_toArray (Y.nd.one sa);have e1:=(IZ sa).1;obtain⟨rfl,-,rfl⟩:gN=some ⟨gX,0,none⟩/\t.nodes.length=t.nodes.length/\cN=cX:=by have:=sg.symm.trans hvX;injection this with q1 q2 q3;exact⟨q1,q2,q3⟩
  replace D:=U D;have ajU:=U hS;replace e1:=U e1;have HRS:=U hS;have HB:=U J;have B2:=U b2;have B3:=U b3;clear hvX hN sa hS J b2 b3;go_upto_region 5 with(first |refine wpList_load_mid rfl 121 (.tmp 15) rfl gX (j * 28) rfl xs _ rngX underlying121 rfl (by rw[sx];kernel_rfl) ?_|(refine wpList_store_mid rfl 121 (.tmp 5) (.tmp 16) rfl wr.1.size 0 xs.toArray rfl rfl ((G.new wr _ _).cR (n:=xs.toArray.size) (by simp[sx,Y.nd])) (by rw[jN,sx];kernel_rfl) ox ?_;rw[aH]))
  refine bK λW2 hW=>?_;have bx:G W2 wr.1.size xs.toArray 121:=G.eqv hW ((G.new wr _ _).cm xs.toArray (by simp[sx,Y.nd]));have I:aY wr W2:=Below.eqv hW (aI bE _ _ _ (cT.alloc bE _));clear hW rngX ox sx;have b2:=B2.next I;have b3:=B3.next I;have hS:=HRS.next I λ_ q=>q.elim;have J:=dW HB.Z I;have z2:=I.size;clear I;have c1:W2.cell? ⟨wr.1.size,1,none⟩=some (.int .i64 x.h.state):=(aD bx 1).trans (by simpa using e1.Z);have bxl:=bx.lt;replace hS:=U hS;replace J:=U J;replace b2:=U b2;have B3:=U b3;clear bx;obtain⟨kc,kf,kl⟩:=b3.open_;go_upto_region 6 with(at_builtin;refine dv (r:=Y.int) (y:=x.h.state) rfl (.tmp 18) (.tmp 22) 36 rfl (w.1.size+2) 3 Tryz.eG underlying36 rfl (by omega) (.slice gS j kS) rfl (hS.next (cT.alloc bE _) λ_ q=>q.elim) (λ_ q=>q.elim) (by simp;omega) 1 W2.1.size [x.h.state] rfl (G.new _ _ _) rfl (by have:=rK.Z;have:=hP.nl;omega) ?_;intro v9 w9 im lE j7 nO;obtain⟨A9,k9,nG,_,_⟩:=im.form;rw[dh,rK.Z,j'] at nG;subst nG;have I0:=(B3.next ((bI W2.1.size W2).alloc bE (.cells #[x.h.state] 3))).grown lE (hS.bM B3.Z (by decide));have GB:=(b2.next ((bI W2.1.size W2).alloc bE (.cells #[x.h.state] 3))).grown lE (hS.bM b2.Z (by decide));have pS:=((J.alloc (by omega) (.cells #[x.h.state] 3)).grown lE (by simp;omega) (λk e=>by have:=(hS.lt k e).1;omega));have AJ:=U im;have HB9:=U pS;have B29:=U GB;clear kc kf kl c1 lE j7 nO im pS GB b3;obtain⟨kc,kf,kl⟩:=I0.open_)
  clear kc kf kl;refine bK λW3 hW=>?_;have cW:bH (w.1.size+1) w9 W3:=bH.eqv hW ((bH.refl _ _).bd 0 _);have b33:G W3 (w.1.size+1) #[.slice A9 (j+1) k9,(),()] 39:=G.eqv hW (I0.bd 0 _);have fO:aY w W3:=Below.eqv hW (HB9.setCell (by show _<=w.1.size+1;omega) _);have WR:=B29.only cW (by omega);have j1:=AJ.only cW id (AJ.bM I0 (by decide));clear hW cW I0;go_wp2;go_roundg (t.nodes.length-(j+1))
  case rel=>
   refine⟨j+1,A9,k9,ss++[x.h.state],by simp,by omega,rfl,U ?_,WR,b33,j1,fO⟩;rw[Nw.Z,Pc.de D.Z,jP];rfl
  case measure=>have:=Hk.Z;omega
abbrev fo(x y:Nat):Option Ordering:=FloatKind.f64.format.order x y
namespace Sc
def nan(b:Nat):Bool:=fo b b !=some .eq
def Q3(b:Nat):Bool:=fo (Op.negFloat .f64 b) 9218868437227405311==some .gt
def To(b:Nat):Bool:=fo b 9218868437227405311==some .gt
def sign(b:Nat):Bool:=decide (wrap64 (b:Int)<0)
def kind(b:Nat):Int:=
 if nan b then 0 else if Q3 b then 1 else if fo b 0==some .lt then 2 else if To b then 6 else if fo b 0==some .gt then 5 else if sign b then 3 else 4
def floor(b:Nat):Nat:=FloatKind.f64.encode ((FloatKind.f64.decode b).integral .down)
end Sc
theorem Mq(b:Nat)(w:World):(callFunc 47 #[.float .f64 b]).run prog w=.ok (.value (.int .u64 b)) w:=by
 rw[run_callFunc_extern (fn:=Tryz.f47) rfl (by kernel_rfl) (by kernel_rfl) (by kernel_rfl) (e:=Extern.MathFloatBits.float64bits) (by kernel_rfl)];rfl
theorem Q4(b:Nat)(w:World)(h:∀s t,FloatKind.f64.decode b≠.nan s t):(callFunc 73 #[.float .f64 b]).run prog w=.ok (.value (.float .f64 (Sc.floor b))) w:=by
 rw[run_callFunc_extern (fn:=Tryz.f73) rfl (by kernel_rfl) (by kernel_rfl) (by kernel_rfl) (e:=Extern.MathFloor.toIntegral "math.archFloor" .down) (by kernel_rfl)];unfold Sc.floor;have e:∀d,FloatKind.f64.decode b=d->(∀s t,d≠.nan s t)->Extern.MathFloor.toIntegral "math.archFloor" .down #[.float .f64 b]=pure (.float .f64 (FloatKind.f64.encode (d.integral .down))):=by
  intro d hd hn;conv=>lhs;whnf
  rw[hd];cases d with
  |nan s t=>exact absurd rfl (hn s t)
  |infinity s=>rfl
  |number s m p=>rfl
 rw[e _ rfl h];rfl
section
theorem aej(b:Nat)(w:World):Calls prog 70 #[.float .f64 b] w λy w'=>y=.returned (.bool (Sc.nan b))/\w=w':=by
 go_in;go_wp2;go_ret;exact⟨rfl,rfl⟩
theorem ZT(b:Nat)(w:World):Calls prog 71 #[.float .f64 b,.int .i64 1] w λy w'=>y=.returned (.bool (Sc.To b))/\w=w':=by
 go_in;go_wp2;go_ret;exact⟨rfl,rfl⟩
theorem ZU(b:Nat)(w:World):Calls prog 71 #[.float .f64 b,.int .i64 (-1)] w λy w'=>y=.returned (.bool (Sc.Q3 b))/\w=w':=by
 have hn:∀W,(Op.unary UnOp.neg (.float .f64 b)).run prog W=.ok (.float .f64 (Op.negFloat .f64 b)) W:=λW=>rfl;go_in;go_wp2;go_ret;exact⟨rfl,rfl⟩
theorem ZV(b:Nat)(w:World):Calls prog 72 #[.float .f64 b] w λy w'=>y=.returned (.bool (Sc.sign b))/\w=w':=by
 have I:=Mq b;go_in;go_wp2;go_ret;exact⟨rfl,rfl⟩
theorem WT(b:Nat)(w:World)(h:∀s t,FloatKind.f64.decode b≠.nan s t):Calls prog 45 #[.float .f64 b] w λy w'=>y=.returned (.float .f64 (Sc.floor b))/\w=w':=by
 have I:=λW=>Q4 b W h;clear h;go_in;go_wp2;go_ret;exact⟨rfl,rfl⟩
theorem ZW(b:Nat)(w:World):Calls prog 44 #[.float .f64 b] w λy w'=>y=.returned (.int .i64 (Sc.kind b))/\w=w':=by
 obtain⟨r,hr⟩:=cJ (Sc.kind b);rw[hr];unfold Sc.kind at hr;go_in;go_wp2_with fail;refine(aej b w).mono ?_;rintro _ _ ⟨rfl,rfl⟩;cases F:Sc.nan b
 case true=>rw[F] at hr;rw[aS rfl] at hr;subst hr;go_wp2_with fail;go_ret;exact⟨rfl,rfl⟩
 rw[F,aO (by simp)] at hr;have HR1:=U hr;clear hr F;go_wp2_with fail;refine(ZU b w).mono ?_;rintro _ _ ⟨rfl,rfl⟩;cases R:Sc.Q3 b
 case true=>have hr:=HR1.Z;rw[R,aS rfl] at hr;subst hr;go_wp2_with fail;go_ret;exact⟨rfl,rfl⟩
 have hr:=HR1.Z;rw[R,aO (by simp)] at hr;have OI:=U hr;clear hr R HR1;cases h3:(fo b 0==some .lt)
 case true=>have hr:=OI.Z;rw[h3,aS rfl] at hr;subst hr;go_wp2_with fail;go_ret;exact⟨rfl,rfl⟩
 have hr:=OI.Z;rw[h3,aO (by simp)] at hr;have OP:=U hr;clear hr OI;go_wp2_with fail;refine(ZT b w).mono ?_;rintro _ _ ⟨rfl,rfl⟩;cases h4:Sc.To b
 case true=>have hr:=OP.Z;rw[h4,aS rfl] at hr;subst hr;go_wp2_with fail;go_ret;exact⟨rfl,rfl⟩
 have hr:=OP.Z;rw[h4,aO (by simp)] at hr;have X1:=U hr;clear hr h4 OP;cases h5:(fo b 0==some .gt)
 case true=>have hr:=X1.Z;rw[h5,aS rfl] at hr;subst hr;go_wp2_with fail;go_ret;exact⟨rfl,rfl⟩
 have hr:=X1.Z;rw[h5,aO (by simp)] at hr;have HR5:=U hr;clear hr X1;go_wp2_with fail;refine(ZV b w).mono ?_;rintro _ _ ⟨rfl,rfl⟩;cases h6:Sc.sign b
 case true=>have hr:=HR5.Z;rw[h6,aS rfl] at hr;subst hr;go_wp2_with fail;go_ret;exact⟨rfl,rfl⟩
 have hr:=HR5.Z;rw[h6,aO (by simp)] at hr;subst hr;go_wp2;go_ret;exact⟨rfl,rfl⟩
end
namespace Sc
def small(b:Nat):Bool:=decide (kind b<=4)||(fo b 4607182418800017408==some .lt)
def OX(b:Nat):Bool:=fo b 4626322717216342016==some .gt||fo b 4626322717216342016==some .eq
end Sc
theorem ael(b:Nat)(w:World)(n:Int)(ZX:Sc.small b=false->Sc.OX b=false->(∀s t,FloatKind.f64.decode b≠.nan s t)/\floatToIntVal .f64 (Sc.floor b) .i64=some n):
 Calls prog 23 #[.float .f64 b] w λy w'=>y=.returned (if Sc.small b then .tuple #[aP,.int .i64 1] else if Sc.OX b then .tuple #[.int .i64 20,aP] else .tuple #[n,aP])/\w=w':=by
 obtain⟨av,hR⟩:∃v:Value,(if Sc.small b then .tuple #[aP,.int .i64 1] else if Sc.OX b then .tuple #[.int .i64 20,aP] else .tuple #[n,aP])=v:=⟨_,rfl⟩;rw[hR];change aK _ at hR;obtain⟨kd,ki⟩:=cJ (Sc.kind b);change aK _ at ki ZX;go_in;go_wp2_with fail;refine(ZW b w).mono ?_;rw[ki.Z];rintro _ _ ⟨rfl,rfl⟩;by_cases F:kd<=4
 case pos=>
  have b1:decide (kd<=4)=true:=cV F;have hs:Sc.small b=true:=by unfold Sc.small;rw[ki.Z,b1];rfl
  change aK _ at hs;clear F;go_wp2;go_ret2;exact⟨by rw[<-hR.Z,hs.Z];rfl,rfl⟩
 have b1:decide (kd<=4)=false:=bZ F;cases R:(fo b 4607182418800017408==some .lt)
 case true=>
  have hs:Sc.small b=true:=by unfold Sc.small;rw[R];simp
  change aK _ at hs;clear F;go_wp2;go_ret2;exact⟨by rw[<-hR.Z,hs.Z];rfl,rfl⟩
 have hs:Sc.small b=false:=by unfold Sc.small;rw[R,ki.Z,b1];rfl
 change aK _ at hs;clear F;cases h3:(fo b 4626322717216342016==some .gt||fo b 4626322717216342016==some .eq)
 case true=>
  have I:Sc.OX b=true:=h3;change aK _ at I;go_wp2;go_ret2;exact⟨by rw[<-hR.Z,hs.Z,I.Z];rfl,rfl⟩
 have I:Sc.OX b=false:=h3;obtain⟨rI,xm⟩:=ZX hs.Z I;replace I:=U I;replace rI:=U rI;have Y5:=λW=>run_convert_float_int (P:=prog) (w:=W) 28 3 .f64 .i64 (Sc.floor b) n (by kernel_rfl) (by kernel_rfl) xm;clear xm;go_wp2_with fail;refine(WT b w rI.Z).mono ?_;rintro _ _ ⟨rfl,rfl⟩;go_wp2;go_ret2;exact⟨by rw[<-hR.Z,hs.Z,I.Z];rfl,rfl⟩
namespace Rc
def lo(b:Nat):Int:=(b:Int) % 4503599627370496
def hi(b:Nat):Int:=(b:Int) / 4503599627370496 % 2048
def mi(b:Nat):Bool:=decide ((9223372036854775808:Int)<=(b:Int))
def rC(h l:Int)(m:Bool):Int:=if h=2047 then(if 0<l then 0 else if m then 1 else 6) else if h=0/\l=0 then(if m then 3 else 4) else if m then 2 else 5
def kind(b:Nat):Int:=rC (hi b) (lo b) (mi b)
end Rc
theorem ZY(b:Nat)(w:World)(I:b<18446744073709551616):Calls prog 26 #[.float .f64 b] w λy w'=>y=.returned (.int .i64 (Rc.kind b))/\w=w':=by
 obtain⟨r,hr⟩:=cJ (Rc.kind b);rw[hr];have h0:0<=Rc.lo b:=by unfold Rc.lo;omega
 have hbt:=Mq b;go_in;go_upto_region 3 with fail
 unfold Rc.kind Rc.hi Rc.lo Rc.mi at hr;unfold Rc.lo at h0;generalize (b:Int) / 4503599627370496 % 2048=h at *;generalize (b:Int) % 4503599627370496=l at *;generalize decide ((9223372036854775808:Int)<=(b:Int))=m at *;clear hbt I;by_cases F:h=2047
 case pos=>
  subst F;by_cases R:0<l
  case pos=>
   have e:r=0:=by rw[<-hr];unfold Rc.rC;rw[aS rfl,aS R]
   subst e;clear hr;go_wp2;go_ret;exact⟨rfl,rfl⟩
  have h3:l=0:=by omega
  subst h3;have e:r=if m then 1 else 6:=by rw[<-hr];unfold Rc.rC;rw[aS rfl,aO (by omega)]
  clear hr h0 R;cases m
  ·have e2:r=6:=e;subst e2;clear e;go_wp2;go_ret;exact⟨rfl,rfl⟩
  ·have e2:r=1:=e;subst e2;clear e;go_wp2;go_ret;exact⟨rfl,rfl⟩
 have b1:(h==2047)=false:=by simpa using F
 by_cases R:h=0
 case pos=>
  subst R;by_cases h3:l=0
  case pos=>
   subst h3;have e:r=if m then 3 else 4:=by rw[<-hr];unfold Rc.rC;rw[aO (by omega),aS ⟨rfl,rfl⟩]
   clear hr h0 F b1;cases m
   ·have e2:r=4:=e;subst e2;clear e;go_wp2;go_ret;exact⟨rfl,rfl⟩
   ·have e2:r=3:=e;subst e2;clear e;go_wp2;go_ret;exact⟨rfl,rfl⟩
  have b3:(l==0)=false:=by simpa using h3
  have e:r=if m then 2 else 5:=by rw[<-hr];unfold Rc.rC;rw[aO (by omega),aO (λq=>h3 q.2)]
  clear hr h0 F b1 h3;cases m
  ·have e2:r=5:=e;subst e2;clear e;go_wp2;go_ret;exact⟨rfl,rfl⟩
  ·have e2:r=2:=e;subst e2;clear e;go_wp2;go_ret;exact⟨rfl,rfl⟩
 have b2:(h==0)=false:=by simpa using R
 have e:r=if m then 2 else 5:=by rw[<-hr];unfold Rc.rC;rw[aO F,aO (λq=>R q.1)]
 clear hr h0 F R;cases m
 ·have e2:r=5:=e;subst e2;clear e;go_wp2;go_ret;exact⟨rfl,rfl⟩
 ·have e2:r=2:=e;subst e2;clear e;go_wp2;go_ret;exact⟨rfl,rfl⟩
end Go.Proofs.YtmgahjkopiaglaaGreat
