/- Lemmas, walks and contracts by which the statement is proved. -/
import Derived.Test.YtmgahjkopiaglaaGreatK9
set_option maxRecDepth 100000
set_option maxHeartbeats 16000000
set_option linter.all false
namespace Go.Proofs.YtmgahjkopiaglaaGreat
open Go.RowKit Go.Proofs.Tryz
theorem Hc{xs:List (Int×Int)}{k:Int}{e:Bool}{j:Nat}{x:Int×Int}(D:xs[j]?=some x)(h:Gr.end_ e x=k):Gr.upto xs k e (j+1)=Gr.upto xs k e j++[(j:Int)]:=by
 rw[Gr.upto,Gr.uz D,aS h]
theorem LV{xs:List (Int×Int)}{k:Int}{e:Bool}{j:Nat}{x:Int×Int}(D:xs[j]?=some x)(h:¬Gr.end_ e x=k):Gr.upto xs k e (j+1)=Gr.upto xs k e j:=by
 rw[Gr.upto,Gr.uz D,aO h]
theorem qg(l:List Int)(x:Int):ints l++[.int .i64 x]=ints (l++[x]):=by rw[sv];rfl
theorem Pz(n k:Int)(v:Value)(xs:List (Int×Int))(w:World)(h:aM Y.msg false w 0 w.1.size v xs)(D:xs.length<=1000000):
 Calls prog 88 #[.agg #[n,v],k,aP] w λy w'=>(∃u,y=.returned u/\aM Y.int true w' w.1.size w'.1.size u (Gr.upto xs k false xs.length))/\aY w w':=by
 obtain⟨A,c,rfl,hl,hm,hA⟩:=h;unfold maxLen at hm;replace hA:=U hA;go_in;go_upto_region 2 with fail
 refine jt λW0 bx J=>?_;have ab:=ch bx;go_wp2;clear ab bx;go_loopg [7,8,9,13] xs.length (λq s _ _ i wr=>∃j:Nat,i=.int .i64 (j:Int)/\j<=xs.length/\q=xs.length-j/\wr.ownsRow w.1.size 3 1 s (Gr.upto xs k false j).length (ints (Gr.upto xs k false j))/\aY w wr)
 case atStart=>exact⟨0,rfl,by omega,by omega,⟨rfl,.inl ⟨rfl,rfl⟩⟩,J⟩
 case round=>
  clear J;obtain⟨j,rfl,hj,Q,hr,J⟩:=hrel;replace hr:=U hr;change aK _ at Q;by_cases bY:j<xs.length
  ·obtain⟨⟨x1,x2⟩,iF⟩:=Pc.get_at bY;obtain⟨gx,o,rfl,_,hg,c0,c1⟩:=(hA.below J bE).msg iF;dsimp only at c0 c1;have Dx:gx<wr.1.size:=aU hg J.size;replace iF:=U iF;go_upto_region 5 with fail
   refine bK λW1 MP=>?_;have bz:=G.eqv MP (G.new _ _ _);have I:=Below.eqv MP (cT.alloc bE _);have Az:=MP▸hr.alloc _;clear MP c0 c1;have qU:=J.trans (I.mono J.size);have ab:=ch bz;clear bz I J;have hlen:=Gr.lL xs k false j;by_cases q1:x1=k
   ·have gw:=Hc (e:=false) iF.Z (k:=k) q1;replace gw:=U gw;have q2:(x1==k)=true:=by simpa using q1
    have OF:=U qU;have fM:=qU.size;go_wp2_with (at_builtin;refine jS rfl _ _ 36 rfl w.1.size 3 Tryz.eG underlying36 rfl _ _ _ rfl Az (.int .i64 (j:Int)) rfl rfl (by omega) (by omega) (by omega) ?_;intro v1 w1 ik lV ee);go_roundg (xs.length-(j+1))
    case rel=>
     rw[qg,<-gw.Z] at ik;exact⟨j+1,by simp,by omega,rfl,by rw[gw.Z,dh];rw[gw.Z] at ik;exact ik,OF.trans ee⟩
    case measure=>have:=Q.Z;omega
   ·have gw:=LV (e:=false) iF.Z (k:=k) q1;replace gw:=U gw;have q2:(x1==k)=false:=by simpa using q1
    go_wp2;go_roundg (xs.length-(j+1))
    case rel=>exact⟨j+1,by simp,by omega,rfl,by rw[gw.Z];exact Az,qU⟩
    case measure=>have:=Q.Z;omega
  ·have jx:j=xs.length:=by omega
   subst jx;go_wp2;go_ret;exact⟨⟨_,rfl,aM.ie hr.Z (kt _ _ _ _) bE bE⟩,J⟩
theorem PA(n k:Int)(v:Value)(xs:List (Int×Int))(w:World)(h:aM Y.msg false w 0 w.1.size v xs)(D:xs.length<=1000000):
 Calls prog 88 #[.agg #[n,v],k,.int .i64 1] w λy w'=>(∃u,y=.returned u/\aM Y.int true w' w.1.size w'.1.size u (Gr.upto xs k true xs.length))/\aY w w':=by
 obtain⟨A,c,rfl,hl,hm,hA⟩:=h;unfold maxLen at hm;replace hA:=U hA;go_in;go_upto_region 2 with fail
 refine jt λW0 bx J=>?_;have ab:=ch bx;go_wp2;clear ab bx;go_loopg [7,8,9,13] xs.length (λq s _ _ i wr=>∃j:Nat,i=.int .i64 (j:Int)/\j<=xs.length/\q=xs.length-j/\wr.ownsRow w.1.size 3 1 s (Gr.upto xs k true j).length (ints (Gr.upto xs k true j))/\aY w wr)
 case atStart=>exact⟨0,rfl,by omega,by omega,⟨rfl,.inl ⟨rfl,rfl⟩⟩,J⟩
 case round=>
  clear J;obtain⟨j,rfl,hj,Q,hr,J⟩:=hrel;replace hr:=U hr;change aK _ at Q;by_cases bY:j<xs.length
  ·obtain⟨⟨x1,x2⟩,iF⟩:=Pc.get_at bY;obtain⟨gx,o,rfl,_,hg,c0,c1⟩:=(hA.below J bE).msg iF;dsimp only at c0 c1;have Dx:gx<wr.1.size:=aU hg J.size;replace iF:=U iF;go_upto_region 5 with fail
   refine bK λW1 MP=>?_;have bz:=G.eqv MP (G.new _ _ _);have I:=Below.eqv MP (cT.alloc bE _);have Az:=MP▸hr.alloc _;clear MP c0 c1;have qU:=J.trans (I.mono J.size);have ab:=ch bz;clear bz I J;have hlen:=Gr.lL xs k true j;by_cases q1:x2=k
   ·have gw:=Hc (e:=true) iF.Z (k:=k) q1;replace gw:=U gw;have q2:(x2==k)=true:=by simpa using q1
    have OF:=U qU;have fM:=qU.size;go_wp2_with (at_builtin;refine jS rfl _ _ 36 rfl w.1.size 3 Tryz.eG underlying36 rfl _ _ _ rfl Az (.int .i64 (j:Int)) rfl rfl (by omega) (by omega) (by omega) ?_;intro v1 w1 ik lV ee);go_roundg (xs.length-(j+1))
    case rel=>
     rw[qg,<-gw.Z] at ik;exact⟨j+1,by simp,by omega,rfl,by rw[gw.Z,dh];rw[gw.Z] at ik;exact ik,OF.trans ee⟩
    case measure=>have:=Q.Z;omega
   ·have gw:=LV (e:=true) iF.Z (k:=k) q1;replace gw:=U gw;have q2:(x2==k)=false:=by simpa using q1
    go_wp2;go_roundg (xs.length-(j+1))
    case rel=>exact⟨j+1,by simp,by omega,rfl,by rw[gw.Z];exact Az,qU⟩
    case measure=>have:=Q.Z;omega
  ·have jx:j=xs.length:=by omega
   subst jx;go_wp2;go_ret;exact⟨⟨_,rfl,aM.ie hr.Z (kt _ _ _ _) bE bE⟩,J⟩
theorem mQ(n k:Int)(v:Value)(xs:List (Int×Int))(w:World)(h:aM Y.msg false w 0 w.1.size v xs)(D:xs.length<=1000000):
 Calls prog 63 #[.agg #[n,v],k] w λy w'=>(∃u,y=.returned u/\aM Y.int true w' w.1.size w'.1.size u (Gr.outs xs k))/\aY w w':=by
 obtain⟨A,c,rfl,hr⟩:=id h;replace h:=U h;clear hr;go_in;go_upto_region 1 with fail
 refine jt λW0 bx J=>?_;have ab:=ch bx;go_wp2_with fail;refine(Pz n k _ xs W0 ((h.below J bE).aF bE J.size) D).mono ?_;rintro y w1 ⟨⟨u,rfl,hu⟩,I⟩;go_wp2;go_ret;exact⟨⟨u,rfl,hu.aF J.size bE⟩,J.trans (I.mono J.size)⟩
theorem mF(n k:Int)(v:Value)(xs:List (Int×Int))(w:World)(h:aM Y.msg false w 0 w.1.size v xs)(D:xs.length<=1000000):
 Calls prog 75 #[.agg #[n,v],k] w λy w'=>(∃u,y=.returned u/\aM Y.int true w' w.1.size w'.1.size u (Gr.ins xs k))/\aY w w':=by
 obtain⟨A,c,rfl,hr⟩:=id h;replace h:=U h;clear hr;go_in;go_upto_region 1 with fail
 refine jt λW0 bx J=>?_;have ab:=ch bx;go_wp2_with fail;refine(PA n k _ xs W0 ((h.below J bE).aF bE J.size) D).mono ?_;rintro y w1 ⟨⟨u,rfl,hu⟩,I⟩;go_wp2;go_ret;exact⟨⟨u,rfl,hu.aF J.size bE⟩,J.trans (I.mono J.size)⟩
theorem iG(v:Value)(a:Int)(xs:List Int)(w:World){fr:Bool}(h:aM Y.int fr w 0 w.1.size v xs):
 Calls prog 62 #[v,a] w λy w'=>y=.returned (.int .i64 (Pc.idx (λx=>decide (x=a)) xs))/\aY w w':=by
 obtain⟨A,c,rfl,hl,hm,hA⟩:=h;unfold maxLen at hm;replace hA:=U hA;go_in;go_wp2;go_loopg [5,8] xs.length (λk _ i wr=>∃j:Nat,i=.int .i64 (j:Int)/\j<=xs.length/\k=xs.length-j/\Pc.clear (λx:Int=>decide (x=a)) xs j/\aY w wr)
 case atStart=>exact⟨0,rfl,by omega,by omega,Pc.fI _ _,cT⟩
 case round=>
  obtain⟨j,rfl,hj,Q,hr,J⟩:=hrel;replace hr:=U hr;change aK _ at Q;by_cases bY:j<xs.length
  ·obtain⟨x,D⟩:=Pc.get_at bY;obtain⟨gx,o,rfl,_,hg,c0⟩:=(hA.below J bE).int D;have Dx:gx<wr.1.size:=aU hg J.size;replace D:=U D;by_cases q1:a=x
   ·have b1:(a==x)=true:=by simpa using q1
    replace q1:=U q1;go_wp2;go_ret;exact⟨by rw[Pc.iT hr.Z D.Z (by simp[q1.Z])];rfl,J⟩
   ·have b1:(a==x)=false:=by simpa using q1
    replace q1:=U q1;go_wp2;go_roundg (xs.length-(j+1))
    case rel=>exact⟨j+1,by simp,by omega,rfl,Pc.ew hr.Z D.Z (bZ (λe=>q1.Z e.symm)),J⟩
    case measure=>have:=Q.Z;omega
  ·have jx:j=xs.length:=by omega
   subst jx;go_wp2;go_ret;exact⟨by rw[Pc.gd hr.Z];rfl,J⟩
theorem Fp(a:Int)(xs:List Int):xs.contains a=xs.any (λx=>decide (x=a)):=by
 induction xs with
 |nil=>rfl
 |cons y ys ih=>
  rw[List.contains_cons,tG,ih];congr 1;by_cases e:a=y
  ·subst e;simp
  ·simp[e,fT e]
theorem gG(v:Value)(a:Int)(xs:List Int)(w:World){fr:Bool}(h:aM Y.int fr w 0 w.1.size v xs):
 Calls prog 41 #[v,a] w λy w'=>y=.returned (.bool (xs.contains a))/\aY w w':=by
 go_in;go_wp2_with fail;refine(iG v a xs w h).mono ?_;rintro y w1 ⟨rfl,I⟩;have hi:=(Pc.nX (λx=>decide (x=a)) xs).2;have ha:=Fp a xs;rw[<-ha] at hi;replace hi:=U hi;clear ha;go_wp2;go_ret;exact⟨by rw[<-hi.Z];rfl,I⟩
theorem tU(n k:Int)(v:Value)(xs:List (Int×Int))(w:World)(h:aM Y.msg false w 0 w.1.size v xs):
 Calls prog 174 #[.agg #[n,v],k] w λy w'=>y=.returned (.int .i64 (Gr.back xs k))/\aY w w':=by
 obtain⟨A,c,rfl,hl,hm,hA⟩:=id h;unfold maxLen at hm;replace hA:=U hA;replace h:=U h;go_in;go_upto_region 1 with fail
 refine jt λW0 bx J=>?_;have ab:=ch bx;by_cases h0:k<0
 ·have hr:Gr.back xs k=-1:=by unfold Gr.back;rw[aS (.inl h0)]
  change aK _ at hr;go_wp2;go_ret;exact⟨by rw[hr.Z];rfl,J⟩
 ·by_cases F:(xs.length:Int)<=k
  ·have hr:Gr.back xs k=-1:=by unfold Gr.back;rw[aS (.inr F)]
   change aK _ at hr;go_wp2;go_ret;exact⟨by rw[hr.Z];rfl,J⟩
  ·obtain⟨j,rfl⟩:∃j:Nat,k=j:=⟨k.toNat,by omega⟩;obtain⟨⟨x1,x2⟩,D⟩:=Pc.get_at (show j<xs.length by omega);have hr:Gr.back xs j=Gr.find xs x2 x1:=by unfold Gr.back;rw[aO (by omega),dG,Gr.uz D]
   change aK _ at hr;go_upto_region 3 with fail
   clear ab;replace bx:=bx.next (cT.drew);replace J:=J.drew;have K:=Ext.refl (W0.drew);refine eU 8192 (by kernel_rfl) ?_;have ab:=ch bx;obtain⟨gx,o,rfl,_,hg,c0,c1⟩:=(hA.below J bE).msg D;dsimp only at c0 c1;have Gg:=aU hg J.size;refine aG [0,1,2,3,4,5,6,7,8,9,10,11,12] 2 ?_;go_wp2;clear ab Gg;refine oJ 13 ?_;go_wp2_with fail;refine(l9 n x2 x1 _ xs _ ((h.below J bE).aF bE J.size)).mono ?_;rintro e w1 ⟨rfl,I⟩;refine iX I bx K J ?_;clear I bx K J;intro _ bx K J;go_wp2;refine⟨λ_=>K,?_⟩;refine aG [14] 0 ?_;go_wp2;refine eJ ?_;go_wp2;go_ret;exact⟨by rw[hr.Z];rfl,J⟩
namespace Pl
def dest(p:Pl)(k:Int):nu:=p.aL.getD k.toNat Tb.none
def leaves(p:Pl)(t:iN)(x:Int):Bool:=(x !=t.src)&&(((p.dest t.next).mode !=2)|| !((p.dest t.next).waits.contains x))
def Bo(p:Pl)(i:Nat):Bool:=match p.dd[i]? with
 |some t=> !(p.waits.any (p.leaves t))
 |none=>true
def nH(p:Pl):Bool:=(List.range p.dd.length).all p.Bo
def Fq(p:Pl):Bool:=jI p.mode 0 3
def pz(p:Pl):Bool:=p.Fq&&(p.jh&&(p.iE&&(p.jF&&p.nH)))
theorem Ke{p:Pl}(h:p.jF=true){t:iN}(ht:t∈p.dd):0<=t.next/\t.next<p.aL.length:=by
 obtain⟨i,hi,rfl⟩:=m5 ht;have:=eT.1 h i (ke.2 hi);unfold Pl.uX at this;rw[eu hi] at this;simp only[cQ,jI,dC] at this;exact this.2.2.1
end Pl
theorem Bp{α:Type}{b:α->Bool}{l:List α}{j:Nat}{x:α}(D:l[j]?=some x)(h:b x=true):l.any b=true:=qI.2 ⟨x,dV D,h⟩
theorem Kf(v:Value)(p:Pl)(w:World)(S:Nat->Prop)(hS:∀b,S b->b<w.1.size)(h:da Y.pl w S v p)(hT:p.jF=true):
 Calls prog 69 #[v] w λy w'=>y=.returned (.bool p.nH)/\aY w w':=by
 obtain⟨A1,A2,A3,A4,A5,k1,k2,k3,k4,k5,rfl,F,R,h3,h4,h5⟩:=h.pl;clear h;change aK _ at hS;go_in;go_upto_region 1 with fail
 refine jt λW0 bx J=>?_;obtain⟨hl,hm⟩:=h3.bounds;obtain⟨Fo,lu⟩:=F.bounds;obtain⟨hl4,hm4⟩:=h4.bounds;change aK _ at hT;have ab:=ch bx;go_wp2;clear ab;go_loopg [4,6,7,12] p.dd.length (λq _ _ _ i wr=>∃j:Nat,i=.int .i64 (j:Int)/\j<=p.dd.length/\q=p.dd.length-j/\mP p.Bo j/\G wr w.1.size #[p.mode,.slice A1 p.waits.length k1,.slice A2 p.dg.length k2,.slice A3 p.dd.length k3,p.n,p.start,.slice A4 p.aL.length k4,p.gn,.slice A5 p.az.length k5] 136/\aY w wr)
 case atStart=>exact⟨0,rfl,by omega,by omega,λi hi=>absurd hi (jO _),bx,J⟩
 case round=>
  clear bx J;obtain⟨j,rfl,hj,Q,hr,bx,J⟩:=hrel;replace hr:=U hr;change aK _ at Q;by_cases bY:j<p.dd.length
  ·obtain⟨⟨ts,tl,tn⟩,ht⟩:=Pc.get_at bY;have iv:=Pl.Ke hT.Z (dV ht);obtain⟨nn,rfl⟩:∃nn:Nat,tn=nn:=⟨tn.toNat,by have:=iv.1;dsimp only at this;omega⟩;have j6:nn<p.aL.length:=by have:=iv.2;dsimp only at this;omega
   clear iv;obtain⟨gA,oA,rfl,hg,e0,e1,e2⟩:=(h3.arr.aE (dx hS J)).jc ht;dsimp only at e0 e1 e2;have gg:gA<wr.1.size:=aU (hS gA hg) J.size;obtain⟨z,hz⟩:=Pc.get_at j6;have Vs:p.dest (nn:Int)=z:=by unfold Pl.dest;rw[dG];exact getD_eq hz
   have Xx:aK (p.Bo j= !(p.waits.any (p.leaves ⟨ts,tl,nn⟩))):=U (by unfold Pl.Bo;rw[ht]);have HL:aK (∀x,p.leaves ⟨ts,tl,nn⟩ x=((x !=ts)&&((z.mode !=2)|| !(z.waits.contains x)))):=U (λx=>by unfold Pl.leaves;rw[Vs]);replace hz:=U hz;clear Vs ht;have ab:=ch bx;go_upto_region 4 with fail
   clear ab;clear e0 e1 e2 gg;refine bK λW1 MP=>?_;have bt:=G.eqv MP (G.new _ _ _);have I:=Below.eqv MP (cT.alloc bE _);have pe:=bx.lt;clear MP;refine lW I bx J ?_;clear I bx J;intro _ bx J;obtain⟨wo,rfl⟩:∃wo:World,wo=wr:=⟨_,rfl⟩;have c0:=aD bx 0;have c1:=aD bx 1;have c2:=aD bx 2;have c3:=aD bx 3;have c4:=aD bx 4;have c5:=aD bx 5;have c6:=aD bx 6;have c7:=aD bx 7;have c8:=aD bx 8;simp only[dY,eR,eZ] at c0 c1 c2 c3 c4 c5 c6 c7 c8;have cl:=bx.lt;go_wp2;clear c0 c1 c2 c3 c4 c5 c6 c7 c8 cl;go_loopg [6,7,20] p.waits.length (λq _ _ i wr=>∃m:Nat,i=.int .i64 (m:Int)/\m<=p.waits.length/\q=p.waits.length-m/\Pc.clear (p.leaves ⟨ts,tl,nn⟩) p.waits m/\G wr w.1.size #[p.mode,.slice A1 p.waits.length k1,.slice A2 p.dg.length k2,.slice (some ⟨gA,oA,none⟩) p.dd.length k3,p.n,p.start,.slice A4 p.aL.length k4,p.gn,.slice A5 p.az.length k5] 136/\G wr wo.1.size #[ts,tl,(nn:Int)] 178/\aY w wr)
   case atStart=>exact⟨0,rfl,by omega,by omega,Pc.fI _ _,bx,bt,J⟩
   case round=>
    clear bx bt J;obtain⟨m,rfl,xH,wD,ug,bx,bt,J⟩:=hrel;replace ug:=U ug;change aK _ at wD;by_cases rY:m<p.waits.length
    ·obtain⟨x,D⟩:=Pc.get_at rY;obtain⟨gx,o,rfl,hg,e0⟩:=dm.qW (F.arr.aE (dx hS J)) D;have gg:gx<wr.1.size:=aU (hS gx hg) J.size;replace D:=U D;obtain⟨gz,oz,B1,B2,B3,c1,c2,c3,rfl,hgz,i0,i1,i2,i3,Ry⟩:=(h4.arr.aE (dx hS J)).eV hz.Z;have yZ:gz<wr.1.size:=aU (hS gz hgz) J.size;have c0:=aD bx 0;have c1:=aD bx 1;have c2:=aD bx 2;have c3:=aD bx 3;have c4:=aD bx 4;have c5:=aD bx 5;have c6:=aD bx 6;have c7:=aD bx 7;have c8:=aD bx 8;simp only[dY,eR,eZ] at c0 c1 c2 c3 c4 c5 c6 c7 c8;have cl:=bx.lt;have d0:=aD bt 0;have d1:=aD bt 1;have d2:=aD bt 2;simp only[dY,eR,eZ] at d0 d1 d2;have dl:=bt.lt;go_upto_region 8 with fail
     clear c0 c1 c2 c3 c4 c5 c6 c7 c8 cl;clear d0 d1 d2 dl;clear e0 gg i0 i1 i2 i3 yZ;refine jt λW3 bz I=>?_;have hzk:=Y.eV.aE Ry λb q=>I.block b (aU (hS.Z b q) J.size);refine iX I bx bt J ?_;clear I bx bt J;intro _ bx bt J;obtain⟨_,_,_,jr,Rz,_,_⟩:=hzk;injection jr with _ jr;injection jr with qX _;subst qX
     replace Rz:=U Rz;have d0:=aD bt 0;have d1:=aD bt 1;have d2:=aD bt 2;simp only[dY,eR,eZ] at d0 d1 d2;have dl:=bt.lt;have f0:=aD bz 0;have f1:=aD bz 1;have f2:=aD bz 2;have f3:=aD bz 3;simp only[dY,eR,eZ] at f0 f1 f2 f3;have fl:=bz.lt;by_cases q1:x=ts
     ·subst q1;have HNO:aK (p.leaves ⟨x,tl,nn⟩ x=false):=U (by rw[HL.Z];simp);go_wp2;go_roundg (p.waits.length-(m+1))
      case rel=>exact⟨m+1,by simp,by omega,rfl,Pc.ew ug.Z D.Z HNO.Z,bx,bt,J⟩
      case measure=>have:=wD.Z;omega
     ·have b1:(x !=ts)=true:=by simpa using q1
      clear q1;by_cases q2:z.mode=2
      ·have b2:(z.mode !=2)=false:=by simp[q2]
       clear q2;go_wp2_with fail;refine(gG _ x z.waits _ (Rz.zero (j2 hS J.size) cT)).mono ?_;clear d0 d1 d2 dl;clear f0 f1 f2 f3 fl;rintro e w4 ⟨rfl,I⟩;refine iX I bx bt J ?_;clear I bx bt J;intro _ bx bt J;cases q3:z.waits.contains x with
       |true=>
        have HNO:aK (p.leaves ⟨ts,tl,nn⟩ x=false):=U (by rw[HL.Z,b2,q3];simp);clear q3;go_wp2;go_roundg (p.waits.length-(m+1))
        case rel=>exact⟨m+1,by simp,by omega,rfl,Pc.ew ug.Z D.Z HNO.Z,bx,bt,J⟩
        case measure=>have:=wD.Z;omega
       |false=>
        have ef:p.nH=false:=by exact dJ bY (by rw[Xx.Z,Bp D.Z (show p.leaves ⟨ts,tl,nn⟩ x=true by rw[HL.Z,b1,b2,q3];rfl)];rfl)
        change aK _ at ef;go_wp2;go_ret;exact⟨by rw[ef.Z];rfl,J⟩
      ·have b2:(z.mode !=2)=true:=by simpa using q2
       clear q2;have ef:p.nH=false:=by exact dJ bY (by rw[Xx.Z,Bp D.Z (show p.leaves ⟨ts,tl,nn⟩ x=true by rw[HL.Z,b1,b2];rfl)];rfl)
       change aK _ at ef;go_wp2;go_ret;exact⟨by rw[ef.Z];rfl,J⟩
    ·have Fa:m=p.waits.length:=by omega
     subst Fa;have HY:aK (p.Bo j=true):=U (by rw[Xx.Z,Pc.Mw ug.Z];rfl);go_wp2;go_roundg (p.dd.length-(j+1))
     case rel=>exact⟨j+1,by simp,by omega,rfl,hr.next HY.Z,bx,J⟩
     case measure=>have:=Q.Z;omega
  ·have jx:j=p.dd.length:=by omega
   subst jx;have ef:p.nH=true:=hr.all;change aK _ at ef;go_wp2;go_ret;exact⟨by rw[ef.Z];rfl,J⟩
def Pl.rules(p:Pl):Nat->Bool
 |0=>p.Fq
 |1=>p.jh
 |2=>p.iE
 |3=>p.jF
 |_=>p.nH
theorem Pl.Bq{p:Pl}{j:Nat}(hj:j<5)(h:p.rules j=false):p.pz=false:=by
 unfold Pl.pz
 match j,hj,h with
 |0,_,h=>have h:p.Fq=false:=h;rw[h];rfl
 |1,_,h=>have h:p.jh=false:=h;rw[h];simp
 |2,_,h=>have h:p.iE=false:=h;rw[h];simp
 |3,_,h=>have h:p.jF=false:=h;rw[h];simp
 |4,_,h=>have h:p.nH=false:=h;rw[h];simp
theorem Pl.Sb{p:Pl}(h:mP p.rules 5):p.pz=true:=by
 have h0:p.Fq=true:=h 0 (by omega);have F:p.jh=true:=h 1 (by omega);have R:p.iE=true:=h 2 (by omega);have h3:p.jF=true:=h 3 (by omega);have h4:p.nH=true:=h 4 (by omega);unfold Pl.pz;rw[h0,F,R,h3,h4];rfl
theorem MQ(m:Int)(v1 v2 v3 v4 v5 v6 v7 v8:Value)(g:Nat)(w:World)(bx:G w g #[m,v1,v2,v3,v4,v5,v6,v7,v8] 136):
 Calls prog 65 #[.pointer g] w λy w'=>y=.returned (.bool (jI m 0 3))/\aY w w':=by
 have J:=bI w.1.size w;have ab:=ch bx;clear bx;go_in;by_cases h0:0<=m
 ·have q0:decide (0<=m)=true:=by simpa using h0
  go_wp2;go_ret;exact⟨by unfold jI;rw[q0];rfl,J⟩
 ·have q0:decide (0<=m)=false:=by simpa using h0
  go_wp2;go_ret;exact⟨by unfold jI;rw[q0];rfl,J⟩
theorem PB(v:Value)(p:Pl)(w:World)(S:Nat->Prop)(hS:∀b,S b->b<w.1.size)(h:da Y.pl w S v p):
 Calls prog 43 #[v] w λy w'=>y=.returned (.bool p.pz)/\aY w w':=by
 obtain⟨A1,A2,A3,A4,A5,k1,k2,k3,k4,k5,rfl,F,R,h3,h4,h5⟩:=h.pl;replace h:=U h;change aK _ at hS;go_in;go_upto_region 1 with fail
 refine bK λW0 pU=>?_;have bx:=G.eqv pU (G.new _ _ _);have J:=Below.eqv pU (cT.alloc bE _);have hz:W0.1.size=w.1.size+1:=pU▸(by simp);clear pU;clear F R h3 h4 h5;change aK _ at hz;have ab:=ch bx;go_wp2;clear ab;go_loopg [5,23] 5 (λq _ i wr=>∃j:Nat,i=.int .i64 (j:Int)/\j<=5/\q=5-j/\mP p.rules j/\G wr w.1.size #[p.mode,.slice A1 p.waits.length k1,.slice A2 p.dg.length k2,.slice A3 p.dd.length k3,p.n,p.start,.slice A4 p.aL.length k4,p.gn,.slice A5 p.az.length k5] 136/\G wr W0.1.size #[.func (.func 65) #[] #[.pointer w.1.size],.func (.func 66) #[.agg #[p.mode,.slice A1 p.waits.length k1,.slice A2 p.dg.length k2,.slice A3 p.dd.length k3,p.n,p.start,.slice A4 p.aL.length k4,p.gn,.slice A5 p.az.length k5]] #[],.func (.func 67) #[.agg #[p.mode,.slice A1 p.waits.length k1,.slice A2 p.dg.length k2,.slice A3 p.dd.length k3,p.n,p.start,.slice A4 p.aL.length k4,p.gn,.slice A5 p.az.length k5]] #[],.func (.func 68) #[.agg #[p.mode,.slice A1 p.waits.length k1,.slice A2 p.dg.length k2,.slice A3 p.dd.length k3,p.n,p.start,.slice A4 p.aL.length k4,p.gn,.slice A5 p.az.length k5]] #[],.func (.func 69) #[.agg #[p.mode,.slice A1 p.waits.length k1,.slice A2 p.dg.length k2,.slice A3 p.dd.length k3,p.n,p.start,.slice A4 p.aL.length k4,p.gn,.slice A5 p.az.length k5]] #[]] 170/\aY w wr)
 case atStart=>exact⟨0,rfl,by omega,by omega,λi hi=>absurd hi (jO _),bx.alloc _,G.new _ _ _,J.alloc J.size _⟩
 case round=>
  clear bx J;obtain⟨j,rfl,hj,Q,hr,bx,br,J⟩:=hrel;replace hr:=U hr;change aK _ at Q;have D2:=ch br;by_cases bY:j<5
  ·have Jm:∀W:World,aY w W->∀b,S b->b<W.1.size:=λW hW b q=>aU (hS b q) hW.size;have OG:∀W:World,aY w W->da Y.pl W S (.agg #[p.mode,.slice A1 p.waits.length k1,.slice A2 p.dg.length k2,.slice A3 p.dd.length k3,p.n,p.start,.slice A4 p.aL.length k4,p.gn,.slice A5 p.az.length k5]) p:=λW hW=>h.aE (dx hS hW);have RA:=U Jm;have HV1:=U OG;clear Jm OG;obtain rfl |rfl |rfl |rfl |rfl:j=0\/j=1\/j=2\/j=3\/j=4:=by omega
   all_goals
    go_upto_region 5 with fail
    clear D2;refine jt λW1 bt I=>?_;replace bx:=bx.next I;replace br:=br.next I;replace J:=J.trans (I.mono J.size);have Jm:=RA.Z _ J;have OG:=HV1.Z _ J;have ab:=ch bt;clear I bt;go_wp2_with fail;clear ab
   ·refine(MQ p.mode _ _ _ _ _ _ _ _ _ _ bx).mono ?_;clear Jm OG;rintro e w2 ⟨rfl,I⟩;refine iX I bx br J ?_;clear I bx br J;intro _ bx br J;cases q0:jI p.mode 0 3 with
    |false=>
     have ef:p.pz=false:=by exact Pl.Bq (j:=0) (by omega) q0
     change aK _ at ef;go_wp2;go_ret;exact⟨by rw[ef.Z];rfl,J⟩
    |true=>
     have HY:aK (p.rules 0=true):=U q0;clear q0;go_wp2;go_roundg (5-(0+1))
     case rel=>exact⟨0+1,by simp,by omega,rfl,hr.next HY.Z,bx,br,J⟩
     case measure=>have:=Q.Z;omega
   ·refine(J' _ p _ S Jm OG).mono ?_;clear Jm OG;rintro e w2 ⟨rfl,I⟩;refine iX I bx br J ?_;clear I bx br J;intro _ bx br J;cases q0:p.jh with
    |false=>
     have ef:p.pz=false:=by exact Pl.Bq (j:=1) (by omega) q0
     change aK _ at ef;go_wp2;go_ret;exact⟨by rw[ef.Z];rfl,J⟩
    |true=>
     have HY:aK (p.rules 1=true):=U q0;clear q0;go_wp2;go_roundg (5-(1+1))
     case rel=>exact⟨1+1,by simp,by omega,rfl,hr.next HY.Z,bx,br,J⟩
     case measure=>have:=Q.Z;omega
   ·refine(Kd _ p _ S Jm OG).mono ?_;clear Jm OG;rintro e w2 ⟨rfl,I⟩;refine iX I bx br J ?_;clear I bx br J;intro _ bx br J;cases q0:p.iE with
    |false=>
     have ef:p.pz=false:=by exact Pl.Bq (j:=2) (by omega) q0
     change aK _ at ef;go_wp2;go_ret;exact⟨by rw[ef.Z];rfl,J⟩
    |true=>
     have HY:aK (p.rules 2=true):=U q0;clear q0;go_wp2;go_roundg (5-(2+1))
     case rel=>exact⟨2+1,by simp,by omega,rfl,hr.next HY.Z,bx,br,J⟩
     case measure=>have:=Q.Z;omega
   ·refine(Kc _ p _ S Jm OG).mono ?_;clear Jm OG;rintro e w2 ⟨rfl,I⟩;refine iX I bx br J ?_;clear I bx br J;intro _ bx br J;cases q0:p.jF with
    |false=>
     have ef:p.pz=false:=by exact Pl.Bq (j:=3) (by omega) q0
     change aK _ at ef;go_wp2;go_ret;exact⟨by rw[ef.Z];rfl,J⟩
    |true=>
     have HY:aK (p.rules 3=true):=U q0;clear q0;go_wp2;go_roundg (5-(3+1))
     case rel=>exact⟨3+1,by simp,by omega,rfl,hr.next HY.Z,bx,br,J⟩
     case measure=>have:=Q.Z;omega
   ·refine(Kf _ p _ S Jm OG (hr 3 (by omega))).mono ?_;clear Jm OG;rintro e w2 ⟨rfl,I⟩;refine iX I bx br J ?_;clear I bx br J;intro _ bx br J;cases q0:p.nH with
    |false=>
     have ef:p.pz=false:=by exact Pl.Bq (j:=4) (by omega) q0
     change aK _ at ef;go_wp2;go_ret;exact⟨by rw[ef.Z];rfl,J⟩
    |true=>
     have HY:aK (p.rules 4=true):=U q0;clear q0;go_wp2;go_roundg (5-(4+1))
     case rel=>exact⟨4+1,by simp,by omega,rfl,hr.next HY.Z,bx,br,J⟩
     case measure=>have:=Q.Z;omega
  ·obtain rfl:j=5:=by omega
   have HN:=U (Pl.Sb hr.Z);go_wp2;go_ret;exact⟨by rw[HN.Z];rfl,J⟩
theorem Tryz.Hd:(prog.info? 205).map (λi=>(i.zero,i.size,i.bytes))=some (some (.agg #[aP,aP]),2,16):=by kernel_rfl
theorem yt:Y.int.flat:=λh=>h
theorem DJ:Y.msg.flat:=λh=>h
theorem Kg(v:Value)(xs:List (Int×Int))(w:World)(h:aM Y.msg false w 0 w.1.size v xs)(D:xs.length<=1000000):Calls prog 134 #[v] w
 λx w'=>(∃v',x=.returned v'/\aM Y.msg true w' w.1.size w'.1.size v' xs)/\aY w w':=by
 obtain⟨A,c,rfl,hl,hm,hA⟩:=h;have q:∀(w:World)(a:Option Addr)(n c n' c':Nat),(binOp .eql 174 (.slice a n c) (.slice none n' c')).run prog w=.ok (.bool a.isNone) w:=λw a n c n' c'=>vV w _ _ a n c n' c' underlying174;cases A with
 |none=>
  have sa:xs=[]:=by
   obtain⟨cells,_,R⟩:=hA;rcases m7 xs.length with h0|h0
   ·exact ib h0
   ·obtain⟨_,_,h,_⟩:=R h0;cases h
  subst sa;clear hA;go_in;go_wp2;go_ret;exact⟨⟨_,rfl,aM.none_⟩,cT⟩
 |some a=>
  have cG:(w.alloc (.cells ([]:List Value).toArray 205)).ownsRow w.1.size 205 Y.msg.size (.slice w.1.size 0 0) 0 []:=tQ (size:=Y.msg.size) w.1.size 205 0 [] (by simp) bE (by unfold maxLen;omega);have iv:aY w (w.alloc (.cells ([]:List Value).toArray 205)):=cT.alloc bE _;have nA:=hA.below iv bE;replace cG:=U cG;replace nA:=U nA;clear hA;go_in;go_wp2_with (at_builtin;refine jT (r:=Y.msg) rfl (.tmp 5) (.tmp 6) 174 rfl w.1.size 205 Tryz.Hd underlying174 rfl _ 0 [] rfl cG.Z _ _ rfl nA.Z (by unfold maxLen;omega) (by omega) (by simp) ?_;intro v1 w1 news hn ik lV ee lM);go_ret;refine⟨⟨_,rfl,aM.ie (r:=Y.msg) (base:=w.1.size) (e:=205) (cells:=news) (by simpa using ik) (Y.oa DJ hn) bE bE⟩,iv.trans ee⟩
theorem PC(v:Value)(xs:List Int)(w:World)(h:aM Y.int false w 0 w.1.size v xs)(D:xs.length<=1000000):Calls prog 180 #[v] w
 λx w'=>(∃v',x=.returned v'/\aM Y.int true w' w.1.size w'.1.size v' xs)/\aY w w':=by
 obtain⟨A,c,rfl,hl,hm,hA⟩:=h;have q:∀(w:World)(a:Option Addr)(n c n' c':Nat),(binOp .eql 36 (.slice a n c) (.slice none n' c')).run prog w=.ok (.bool a.isNone) w:=λw a n c n' c'=>vV w _ _ a n c n' c' underlying36;cases A with
 |none=>
  have sa:xs=[]:=by
   obtain⟨cells,_,R⟩:=hA;rcases m7 xs.length with h0|h0
   ·exact ib h0
   ·obtain⟨_,_,h,_⟩:=R h0;cases h
  subst sa;clear hA;go_in;go_wp2;go_ret;exact⟨⟨_,rfl,aM.none_⟩,cT⟩
 |some a=>
  have cG:(w.alloc (.cells ([]:List Value).toArray 3)).ownsRow w.1.size 3 Y.int.size (.slice w.1.size 0 0) 0 []:=tQ (size:=Y.int.size) w.1.size 3 0 [] (by simp) bE (by unfold maxLen;omega);have iv:aY w (w.alloc (.cells ([]:List Value).toArray 3)):=cT.alloc bE _;have nA:=hA.below iv bE;replace cG:=U cG;replace nA:=U nA;clear hA;go_in;go_wp2_with (at_builtin;refine jT (r:=Y.int) rfl (.tmp 5) (.tmp 6) 36 rfl w.1.size 3 Tryz.eG underlying36 rfl _ 0 [] rfl cG.Z _ _ rfl nA.Z (by unfold maxLen;omega) (by omega) (by simp) ?_;intro v1 w1 news hn ik lV ee lM);go_ret;refine⟨⟨_,rfl,aM.ie (r:=Y.int) (base:=w.1.size) (e:=3) (cells:=news) (by simpa using ik) (Y.oa yt hn) bE bE⟩,iv.trans ee⟩
theorem Br(v:Value)(T:List iD)(n s:Int)(w:World)(S:Nat->Prop)(hS:∀b,S b->b<w.1.size)(h:ay Y.eC false w S v T)(hlen:(Tb.at_ T n s).waits.length<=1000000):
 Calls prog 175 #[v,n,s] w λy w'=>(∃u,y=.returned u/\aM Y.int true w' w.1.size w'.1.size u (Tb.at_ T n s).waits)/\aY w w':=by
 go_in;go_wp2_with fail;refine(Ay v T n s w S hS h).mono ?_;rintro e w1 ⟨⟨u,rfl,hu⟩,I⟩;obtain⟨x,D⟩:=cJ (Tb.at_ T n s);rw[D] at hu hlen;change aK _ at D;clear h;obtain⟨cs,rfl,v1,v2,v3,rfl,F,R,h3⟩:=hu;obtain⟨A1,k1,rfl,Fo⟩:=id F;obtain⟨A2,k2,rfl,DH⟩:=id R;obtain⟨A3,k3,rfl,hl3⟩:=id h3;go_upto_region 2 with fail
 refine jt λW2 bx dO=>?_;have J:=I.trans (dO.mono I.size);have Q:∀b,S b->W2.1[b]?=w1.1[b]?:=λb q=>dO.block b (aU (hS b q) I.size);replace F:=F.aE Q;replace R:=R.aE Q;replace h3:=h3.aE Q;have DI:∀b,S b->b<W2.1.size:=λb q=>aU (hS b q) J.size;change aK _ at DI;replace F:=U F;replace R:=U R;replace h3:=U h3;clear Q I dO hS;have ab:=ch bx;go_wp2_with fail;refine(PC _ x.waits _ (F.zero DI.Z cT) hlen).mono ?_;rintro e w3 ⟨⟨u,rfl,hu⟩,I⟩;go_wp2;go_ret;exact⟨⟨u,rfl,by rw[D.Z];exact hu.aF J.size bE⟩,J.trans (I.mono J.size)⟩
end Go.Proofs.YtmgahjkopiaglaaGreat
