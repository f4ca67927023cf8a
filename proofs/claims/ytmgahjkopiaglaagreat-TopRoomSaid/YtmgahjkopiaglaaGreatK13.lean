/- Lemmas, walks and contracts by which the statement is proved. -/
import Derived.Test.YtmgahjkopiaglaaGreatK12
set_option maxRecDepth 100000
set_option maxHeartbeats 16000000
set_option linter.all false
namespace Go.Proofs.YtmgahjkopiaglaaGreat
open Go.RowKit Go.Proofs.Tryz
namespace Tb
def place(z:nu)(i:Nat)(x:iD)(n:Int)(l:List (Int×Int)):Pl:=⟨z.mode,z.waits,z.dg,z.dd,i,x.start,x.aL,n,l⟩
def rf(i:Nat)(x:iD)(n:Int)(l:List (Int×Int))(k:Nat):Bool:=match x.aL[k]? with
 |some z=>(place z i x n l).pz
 |Option.none=>true
def vd(n:Int)(l:List (Int×Int))(T:List iD)(i:Nat):Bool:=match T[i]? with
 |some x=>decide (1<=x.aL.length)&&(decide (x.aL.length<=8)&&(decide (0<=x.start)&&(decide (x.start<x.aL.length)&&(List.range x.aL.length).all (rf i x n l))))
 |Option.none=>true
def right(n:Int)(l:List (Int×Int))(T:List iD):Bool:=Gr.right n l&&(decide ((T.length:Int)=n)&&(List.range T.length).all (vd n l T))
end Tb
theorem ri(v gv:Value)(T:List iD)(n:Int)(xs:List (Int×Int))(w:World)(S:Nat->Prop)(hS:∀b,S b->b<w.1.size)(h:ay Y.eC false w S v T)(hg:ay Y.msg false w S gv xs)(D:xs.length<=1000):
 Calls prog 22 #[v,.agg #[n,gv]] w λy w'=>y=.returned (.bool (Tb.right n xs T))/\aY w w':=by
 obtain⟨A,c,rfl,hl,hm,hA⟩:=h;obtain⟨A5,k5,rfl,_⟩:=id hg;unfold maxLen at hm;replace hA:=U hA;replace hg:=U hg;change aK _ at hS;go_in;go_upto_region 1 with fail
 refine jt λW0 bx J=>?_;have ab:=ch bx;go_wp2_with fail;clear ab;refine(BB n _ xs _ (hg.zero hS.Z J) D).mono ?_;rintro e w1 ⟨rfl,I⟩;refine lW I bx J ?_;clear I bx J;intro _ bx J;have ab:=ch bx;cases q1:Gr.right n xs with
 |false=>
  have HN:aK (Tb.right n xs T=false):=U (by unfold Tb.right;rw[q1];rfl);go_wp2;go_ret;exact⟨by rw[HN.Z];rfl,J⟩
 |true=>
  by_cases q2:(T.length:Int)=n
  ·have b2:((T.length:Int) !=n)=false:=by simp[q2]
   have HQ:aK (Tb.right n xs T=(List.range T.length).all (Tb.vd n xs T)):=U (by unfold Tb.right;rw[q1,cV q2];rfl);clear q1 q2;go_wp2;clear ab;go_loopg [5,6,21] T.length (λq _ _ i wr=>∃j:Nat,i=.int .i64 (j:Int)/\j<=T.length/\q=T.length-j/\mP (Tb.vd n xs T) j/\G wr w.1.size #[n,.slice A5 xs.length k5] 24/\aY w wr)
   case atStart=>exact⟨0,rfl,by omega,by omega,λi hi=>absurd hi (jO _),bx,J⟩
   case round=>
    clear bx J;obtain⟨j,rfl,hj,Q,hr,bx,J⟩:=hrel;replace hr:=U hr;have HK:=U Q;clear Q;by_cases bY:j<T.length
    ·obtain⟨x,iF⟩:=Pc.get_at bY;obtain⟨gx,o,u,rfl,jy,e0,e1,gw⟩:=(hA.aE (dx hS J)).eC iF;have gg:gx<wr.1.size:=aU (hS gx jy) J.size;have Ue:aK (Tb.vd n xs T j=(decide (1<=x.aL.length)&&(decide (x.aL.length<=8)&&(decide (0<=x.start)&&(decide (x.start<x.aL.length)&&(List.range x.aL.length).all (Tb.rf j x n xs)))))):=U (by unfold Tb.vd;rw[iF]);obtain⟨A4,k4,rfl,rW,LO,hAs⟩:=id gw;unfold maxLen at LO;clear iF hAs;go_upto_region 6 with fail
     clear e0 e1 gg;refine jt λW1 bn I=>?_;have HST:=U (gw.aE λb q=>I.block b (aU (hS.Z b q) J.size));clear gw;refine lW I bx J ?_;clear I bx J;intro _ bx J;have RA:=U (show ∀b,S b->b<W1.1.size from λb q=>aU (hS.Z b q) J.size);have ab:=ch bn;by_cases r1:1<=x.aL.length
     ·by_cases r2:x.aL.length<=8
      ·by_cases r3:0<=x.start
       ·by_cases r4:x.start<x.aL.length
        ·have YD:aK (Tb.vd n xs T j=(List.range x.aL.length).all (Tb.rf j x n xs)):=U (by rw[Ue.Z,cV r1,cV r2,cV r3,cV r4];rfl);have b1:¬((x.aL.length:Int)<1):=by omega
         have b3:¬((x.aL.length:Int)>8):=by omega
         have b4:¬(x.start<0):=by omega
         have b5:¬(x.start>=(x.aL.length:Int)):=by omega
         go_wp2;clear ab;obtain⟨wo,rfl⟩:∃wo:World,wo=wr:=⟨_,rfl⟩;clear r1 r2 r3 r4 b1 b3 b4 b5;go_loopg [8,52] x.aL.length (λq _ i wr=>∃m:Nat,i=.int .i64 (m:Int)/\m<=x.aL.length/\q=x.aL.length-m/\mP (Tb.rf j x n xs) m/\G wr w.1.size #[n,.slice A5 xs.length k5] 24/\G wr wo.1.size #[x.start,.slice A4 x.aL.length k4] 84/\aY W1 wr/\aY w wr)
         case atStart=>exact⟨0,rfl,by omega,by omega,λi hi=>absurd hi (jO _),bx,bn,cT,J⟩
         case round=>
          clear bx bn J;obtain⟨m,rfl,xH,wD,ug,bx,bn,qU,J⟩:=hrel;replace ug:=U ug;change aK _ at wD;by_cases rY:m<x.aL.length
          ·obtain⟨z,hz⟩:=Pc.get_at rY;have gw:=HST.aE (dx RA.Z qU);obtain⟨gz,oz,A1,A2,A3,k1,k2,k3,hAe,hgz,i0,i1,i2,i3,Ry⟩:=gw.arr.eV hz;subst hAe;have yZ:gz<wr.1.size:=aU (RA gz hgz) qU.size;have Xx:aK (Tb.rf j x n xs m=(Tb.place z j x n xs).pz):=U (by unfold Tb.rf;rw[hz]);replace gw:=U gw;replace Ry:=U Ry;clear hz;have ab:=ch bn;go_upto_region 11 with fail
           clear ab;clear i0 i1 i2 i3 yZ;refine jt λW3 bz I=>?_;have Q:∀b,S b->W3.1[b]?=wr.1[b]?:=λb q=>I.block b (aU (hS b q) J.size);have FB:=Y.eV.aE Ry.Z Q;have CN:=gw.aE Q;replace bx:=bx.next I;replace bn:=bn.next I;replace qU:=qU.trans (I.mono qU.size);replace J:=J.trans (I.mono J.size);have fh:=hg.aE (dx hS.Z J);have hV:da Y.pl W3 S (.agg #[z.mode,.slice A1 z.waits.length k1,.slice A2 z.dg.length k2,.slice A3 z.dd.length k3,(j:Int),x.start,.slice (some ⟨gz,oz,none⟩) x.aL.length k4,n,.slice A5 xs.length k5]) (Tb.place z j x n xs):=by
            obtain⟨_,_,_,jr,q1,q2,q3⟩:=FB;injection jr with _ jr;injection jr with e1 jr;injection jr with e2 jr;injection jr with e3 _
            subst e1 e2 e3;exact⟨[_,_,_,_,_,_,_,_,_],rfl,_,_,_,_,_,rfl,q1,q2,q3,CN,fh⟩
           have hS3:∀b,S b->b<W3.1.size:=λb q=>aU (hS b q) J.size;change aK _ at hS3;clear FB CN fh Q I;have d0:=aD bx 0;have d1:=aD bx 1;simp only[dY,eR,eZ] at d0 d1;have dl:=bx.lt;have f0:=aD bn 0;have f1:=aD bn 1;simp only[dY,eR,eZ] at f0 f1;have fl:=bn.lt;have s0:=aD bz 0;have s1:=aD bz 1;have s2:=aD bz 2;have s3:=aD bz 3;simp only[dY,eR,eZ] at s0 s1 s2 s3;have sl:=bz.lt;go_wp2_with fail;clear d0 d1 dl;clear f0 f1 fl;clear s0 s1 s2 s3 sl;refine(PB _ _ _ S hS3.Z hV).mono ?_;rintro e w4 ⟨rfl,I⟩;replace bx:=bx.next I;replace bn:=bn.next I;replace qU:=qU.trans (I.mono qU.size);replace J:=J.trans (I.mono J.size);clear I bz;cases q4:(Tb.place z j x n xs).pz with
           |false=>
            have HN:aK (Tb.right n xs T=false):=U (by rw[HQ.Z];exact dJ bY (by rw[YD.Z];exact dJ rY (by rw[Xx.Z,q4])));go_wp2;go_ret;exact⟨by rw[HN.Z];rfl,J⟩
           |true=>
            have HY:=U (Xx.Z.trans q4);clear q4;go_wp2;go_roundg (x.aL.length-(m+1))
            case rel=>exact⟨m+1,by simp,by omega,rfl,ug.next HY.Z,bx,bn,qU,J⟩
            case measure=>have:=wD.Z;omega
          ·have Fa:m=x.aL.length:=by omega
           subst Fa;have HY:=U (YD.Z.trans ug.all);go_wp2;go_roundg (T.length-(j+1))
           case rel=>exact⟨j+1,by simp,by omega,rfl,hr.next HY.Z,bx,J⟩
           case measure=>have:=HK.Z;omega
        ·have b1:¬((x.aL.length:Int)<1):=by omega
         have b3:¬((x.aL.length:Int)>8):=by omega
         have b4:¬(x.start<0):=by omega
         have b5:x.start>=(x.aL.length:Int):=by omega
         have HN:aK (Tb.right n xs T=false):=U (by rw[HQ.Z,dJ bY (by rw[Ue.Z,bZ r4];simp)]);go_wp2;go_ret;exact⟨by rw[HN.Z];rfl,J⟩
       ·have b1:¬((x.aL.length:Int)<1):=by omega
        have b3:¬((x.aL.length:Int)>8):=by omega
        have b4:x.start<0:=by omega
        have HN:aK (Tb.right n xs T=false):=U (by rw[HQ.Z,dJ bY (by rw[Ue.Z,bZ r3];simp)]);go_wp2;go_ret;exact⟨by rw[HN.Z];rfl,J⟩
      ·have b1:¬((x.aL.length:Int)<1):=by omega
       have b3:(x.aL.length:Int)>8:=by omega
       have HN:aK (Tb.right n xs T=false):=U (by rw[HQ.Z,dJ bY (by rw[Ue.Z,bZ r2];simp)]);go_wp2;go_ret;exact⟨by rw[HN.Z];rfl,J⟩
     ·have b1:(x.aL.length:Int)<1:=by omega
      have HN:aK (Tb.right n xs T=false):=U (by rw[HQ.Z,dJ bY (by rw[Ue.Z,bZ r1];rfl)]);go_wp2;go_ret;exact⟨by rw[HN.Z];rfl,J⟩
    ·have jx:j=T.length:=by omega
     subst jx;have HN:aK (Tb.right n xs T=true):=U (HQ.Z.trans hr.all);go_wp2;go_ret;exact⟨by rw[HN.Z];rfl,J⟩
  ·have b2:((T.length:Int) !=n)=true:=by simpa using q2
   have HN:aK (Tb.right n xs T=false):=U (by unfold Tb.right;rw[bZ q2];simp);go_wp2;go_ret;exact⟨by rw[HN.Z];rfl,J⟩
namespace Tb
def nx(T:List iD)(n s k:Int):Option yp:=if k<0 then Option.none else(at_ T n s).dg[k.toNat]?
end Tb
theorem Hl(v:Value)(T:List iD)(n s k:Int)(w:World)(S:Nat->Prop)(hS:∀b,S b->b<w.1.size)(h:ay Y.eC false w S v T)(hlen:∀p∈(Tb.at_ T n s).dg,p.eo.length<=1000000):
 Calls prog 101 #[v,n,s,k] w λy w'=>(∃u,y=.returned (.tuple #[u,.bool (Tb.nx T n s k).isSome])/\da Y.lh w' (bO w.1.size w'.1.size) u ((Tb.nx T n s k).getD ⟨0,[]⟩))/\aY w w':=by
 go_in;go_upto_region 1 with fail
 refine jt λW0 br CO=>?_;have OE:∀b,S b->b<W0.1.size:=λb q=>aU (hS b q) CO.size;have h0:=h.aE (dx hS CO);go_wp2_with fail;refine(Ay v T n s W0 S OE h0).mono ?_;rintro e w1 ⟨⟨u,rfl,hu⟩,I⟩;obtain⟨x,D⟩:=cJ (Tb.at_ T n s);rw[D] at hu hlen;change aK _ at D;replace hlen:=U hlen;clear h h0;replace br:=br.next I;have hlw:w.1.size<w1.1.size:=br.lt;obtain⟨cs,rfl,v1,v2,v3,rfl,F,R,h3⟩:=hu;obtain⟨A1,k1,rfl,_⟩:=id F;obtain⟨A2,k2,rfl,_⟩:=id R;obtain⟨A3,k3,rfl,_⟩:=id h3;clear F h3;go_upto_region 2 with fail
 refine jt λW2 bx dO=>?_;replace br:=br.next dO;have Jm:∀b,S b->b<w1.1.size:=λb q=>aU (OE b q) I.size;have J:=CO.trans ((I.trans (dO.mono I.size)).mono CO.size);have HLT:=U br.lt;replace R:=R.aE (dx Jm dO);have HS:=U (show ∀b,S b->b<W2.1.size from λb q=>aU (Jm b q) dO.size);obtain⟨hl,hm⟩:=R.bounds;replace R:=U R;clear hS OE Jm I dO CO;have D2:=eE bx br;have MG:=U J;by_cases q1:k<0
 ·have hp:Tb.nx T n s k=Option.none:=by unfold Tb.nx;rw[aS q1]
  change aK _ at hp;go_wp2;refine bL (v:=.tuple #[.agg #[aP,()],false]) (by simp[results,results101,go_sem,D2]) rfl ⟨⟨_,by rw[hp.Z];rfl,[_,_],rfl,by rw[hp.Z];exact⟨_,rfl,ay.none_⟩⟩,aI bE [_,_] 0 _ MG.Z⟩
 ·by_cases q2:k<x.dg.length
  ·obtain⟨j,rfl⟩:∃j:Nat,k=j:=⟨k.toNat,by omega⟩;obtain⟨t,ht⟩:=Pc.get_at (show j<x.dg.length by omega);obtain⟨gx,o,B,cB,rfl,hg,e0,e1,hs⟩:=R.arr.lh ht;have gg:gx<W2.1.size:=HS gx hg;have bY:t.eo.length<=1000000:=hlen t (dV ht);have HP:aK (Tb.nx T n s (j:Int)=some t):=U (by unfold Tb.nx;rw[aO (by omega),D.Z,dG,ht]);have HSS:=U (hs.zero HS.Z ((bI _ W2).drew));clear hs ht;go_upto_region 4 with fail
   clear D2;replace bx:=bx.next (cT.drew);replace br:=br.next (cT.drew);replace J:=J.drew;have K:=Ext.refl (W2.drew);refine eU 4096 (by kernel_rfl) ?_;have ab:=ch bx;have e0':W2.drew.cell? _=_:=e0;have Vz:W2.drew.cell? _=_:=e1;have Ys:gx<W2.drew.1.size:=gg;refine aG [6,7,8,9,10,11] 10 ?_;go_wp2;refine rJ [0,1,2,3,4,5] 4 ?_;go_wp2;refine iJ ?_;clear ab e0' Vz Ys;refine oN 12 ?_;go_wp2_with fail;refine(Kg _ t.eo _ HSS.Z bY).mono ?_;rintro e w3 ⟨⟨u,rfl,hu⟩,I⟩;refine ja I bx br K J ?_;clear I bx br K J;intro _ bx br K J;obtain⟨Au,ku,rfl,DU⟩:=id hu;clear DU;go_wp2;refine⟨λ_=>K,?_⟩;have ab:=ch br;replace hu:=U hu;have HBY:=U J;refine aG [13,14,15] 0 ?_;go_wp2;refine eJ ?_;go_wp2;have Q:∀(l:List Value),ay Y.msg false (cz w3 w.1.size 0 l) (bO w.1.size (cz w3 w.1.size 0 l).1.size) (.slice Au t.eo.length ku) t.eo:=λl=>(hu.soft.aE λb q1 q2=>bV (by have:=HLT.Z;have q3:W2.1.size<=b:=q1;omega) l 0 _).on.aF λb q=>⟨by have:=HLT.Z;have q3:W2.1.size<=b:=q.1;omega,by rw[bR];exact q.2⟩;refine bL (v:=.tuple #[.agg #[t.next,.slice Au t.eo.length ku],true]) (by simp[results,results101,go_sem,ab]) rfl ⟨⟨_,by rw[HP.Z];rfl,[_,_],rfl,by rw[HP.Z];exact⟨_,rfl,Q [_,_]⟩⟩,aI bE [_,_] 0 _ HBY.Z⟩
  ·have hp:Tb.nx T n s k=Option.none:=by unfold Tb.nx;rw[aO q1,D.Z];exact uJ (by omega)
   change aK _ at hp;go_wp2;refine bL (v:=.tuple #[.agg #[aP,()],false]) (by simp[results,results101,go_sem,D2]) rfl ⟨⟨_,by rw[hp.Z];rfl,[_,_],rfl,by rw[hp.Z];exact⟨_,rfl,ay.none_⟩⟩,aI bE [_,_] 0 _ MG.Z⟩
def Y.jd:Y Bool where
 size:=1
 pos:=by omega
 is _ _ _ cs a:=cs=[.bool a]
 len h:=by rw[h];rfl
 aE h _:=h
 aF h _:=h
 soft h:=h
 one h:=by rw[h];intro u hu;simp at hu;subst hu;rfl
theorem dM.jd{fr:Bool}{w:World}{lo hi k:Nat}{A:Option Addr}{xs:List Bool}{x:Bool}(h:dM Y.jd fr w lo hi A xs)(D:xs[k]?=some x):
 ∃g o,A=some ⟨g,o,none⟩/\lo<=g/\g<hi/\w.cell? ⟨g,o+k,none⟩=some (.bool x):=by
 obtain⟨g,o,cs,rfl,F,h3,h4⟩:=dm.at_ h D;have xG:cs=[.bool x]:=h3;subst xG;have:=(h4 0 _ rfl).1;exact⟨g,o,rfl,F.1,F.2,by simpa[Y.jd] using this⟩
theorem M0(a:Bool)(xs:List Bool):xs.contains a=xs.any (λx=>decide (x=a)):=by
 induction xs with
 |nil=>rfl
 |cons y ys ih=>
  rw[List.contains_cons,tG,ih];congr 1;cases a<;>cases y<;>rfl
theorem Kn(v:Value)(a:Bool)(xs:List Bool)(w:World){fr:Bool}(h:aM Y.jd fr w 0 w.1.size v xs):
 Calls prog 241 #[v,a] w λy w'=>y=.returned (.int .i64 (Pc.idx (λx=>decide (x=a)) xs))/\aY w w':=by
 obtain⟨A,c,rfl,hl,hm,hA⟩:=h;unfold maxLen at hm;replace hA:=U hA;go_in;go_wp2;go_loopg [5,8] xs.length (λk _ i wr=>∃j:Nat,i=.int .i64 (j:Int)/\j<=xs.length/\k=xs.length-j/\Pc.clear (λx:Bool=>decide (x=a)) xs j/\aY w wr)
 case atStart=>exact⟨0,rfl,by omega,by omega,Pc.fI _ _,cT⟩
 case round=>
  obtain⟨j,rfl,hj,Q,hr,J⟩:=hrel;replace hr:=U hr;change aK _ at Q;by_cases bY:j<xs.length
  ·obtain⟨x,D⟩:=Pc.get_at bY;obtain⟨gx,o,rfl,_,hg,c0⟩:=(hA.below J bE).jd D;have Dx:gx<wr.1.size:=aU hg J.size;replace D:=U D;by_cases q1:a=x
   ·have b1:(a==x)=true:=by simpa using q1
    replace q1:=U q1;go_wp2;go_ret;exact⟨by rw[Pc.iT hr.Z D.Z (by simp[q1.Z])];rfl,J⟩
   ·have b1:(a==x)=false:=by simpa using q1
    replace q1:=U q1;go_wp2;go_roundg (xs.length-(j+1))
    case rel=>exact⟨j+1,by simp,by omega,rfl,Pc.ew hr.Z D.Z (bZ (λe=>q1.Z e.symm)),J⟩
    case measure=>have:=Q.Z;omega
  ·have jx:j=xs.length:=by omega
   subst jx;go_wp2;go_ret;exact⟨by rw[Pc.gd hr.Z];rfl,J⟩
theorem Db(v:Value)(a:Bool)(xs:List Bool)(w:World){fr:Bool}(h:aM Y.jd fr w 0 w.1.size v xs):
 Calls prog 235 #[v,a] w λy w'=>y=.returned (.bool (xs.contains a))/\aY w w':=by
 go_in;go_wp2_with fail;refine(Kn v a xs w h).mono ?_;rintro y w1 ⟨rfl,I⟩;have hi:=(Pc.nX (λx=>decide (x=a)) xs).2;have ha:=M0 a xs;rw[<-ha] at hi;replace hi:=U hi;clear ha;go_wp2;go_ret;exact⟨by rw[<-hi.Z];rfl,I⟩
theorem M1(e s:Int)(A:Option Addr)(c:Nat)(xs:List Bool)(p0 p1 p2:Int)(v1 v2 v3:Value)(w:World)(h:aM Y.jd false w 0 w.1.size (.slice A xs.length c) xs):
 Calls prog 212 #[.agg #[e,.slice A xs.length c,p0,p1,p2,v1,v2,v3],s] w λy w'=>y=.returned (.bool ((e==s)&& !(xs.contains true)))/\aY w w':=by
 replace h:=U h;go_in;go_upto_region 1 with fail
 refine jt λW0 bx J=>?_;have ab:=ch bx;cases q:(e==s) with
 |false=>
  go_wp2;go_ret;exact⟨by rw[q];rfl,J⟩
 |true=>
  go_wp2_with fail;refine(Db _ true xs _ ((h.below J bE).aF bE J.size)).mono ?_;rintro y w1 ⟨rfl,I⟩;go_wp2;go_ret;exact⟨by rw[q];simp,J.trans (I.mono J.size)⟩
def sQ(k a b:Int):Bool:=jI k 0 4&&(uW a&&(uW b&&(decide (k<=1)||(b==0))))
theorem PO(k a b:Int)(w:World):Calls prog 24 #[.agg #[k,a,b]] w λy w'=>y=.returned (.bool (sQ k a b))/\aY w w':=by
 go_in;go_upto_region 1 with fail
 refine jt λW0 bx J=>?_;have ab:=ch bx;cases q0:jI k 0 4 with
 |false=>
  by_cases h0:0<=k
  ·have b0:decide (0<=k)=true:=by simpa using h0
   have b1:decide (k<4)=false:=by unfold jI at q0;rw[b0] at q0;exact q0
   go_wp2;go_ret;exact⟨by unfold sQ;rw[q0];rfl,J⟩
  ·have b0:decide (0<=k)=false:=by simpa using h0
   go_wp2;go_ret;exact⟨by unfold sQ;rw[q0];rfl,J⟩
 |true=>
  have h0:0<=k/\k<4:=by unfold jI at q0;simpa using q0
  have b0:decide (0<=k)=true:=by simpa using h0.1
  have b1:decide (k<4)=true:=by simpa using h0.2
  go_wp2_with fail;refine(DG a _).mono ?_;rintro e w1 ⟨rfl,I⟩;clear ab;refine lW I bx J ?_;clear I bx J;intro _ bx J;cases q1:uW a with
  |false=>
   go_wp2;go_ret;exact⟨by unfold sQ;rw[q0,q1];rfl,J⟩
  |true=>
   have ab:=ch bx;go_wp2_with fail;refine(DG b _).mono ?_;rintro e w2 ⟨rfl,I⟩;clear ab;refine lW I bx J ?_;clear I bx J;intro _ bx J;cases q2:uW b with
   |false=>
    go_wp2;go_ret;exact⟨by unfold sQ;rw[q0,q1,q2];rfl,J⟩
   |true=>
    have ab:=ch bx;cases q3:decide (k<=1) with
    |true=>
     go_wp2;go_ret;exact⟨by unfold sQ;rw[q0,q1,q2,q3];rfl,J⟩
    |false=>
     go_wp2;go_ret;exact⟨by unfold sQ;rw[q0,q1,q2,q3];rfl,J⟩
def Tree.BC(t u k:Int)(A:Option Addr)(n c:Nat)(e l m:Int):Value:=
 if t==e then .tuple #[.agg #[t,u,k,.slice A n c],false] else .tuple #[.agg #[e,l,.int .i64 (max m 0),()],true]
theorem M3(e n:Int)(w:World):Calls prog 120 #[e,n] w λy w'=>y=.returned (.agg #[e,.int .i64 (-1),.int .i64 (max n 0),()])/\aY w w':=by
 go_in;go_upto_region 1 with fail
 refine jt λW0 bx J=>?_;have ab:=ch bx;go_wp2;refine bL (v:=.agg #[e,.int .i64 (-1),.int .i64 (max n 0),()]) (by simp[results,results120,go_sem,ab]) rfl ⟨rfl,aI bE [_,_,_,_] 0 _ J⟩
theorem xO(t u k:Int)(A:Option Addr)(n c:Nat)(e l m:Int)(w:World):Calls prog 154 #[.agg #[t,u,k,.slice A n c],e,l,m] w λy w'=>
 y=.returned (Tree.BC t u k A n c e l m)/\aY w w':=by
 go_in;go_upto_region 1 with fail
 refine r9 λW0 bt bx J=>?_;have ab:=ch bt;go_wp2_with fail;refine(qV t u k _ e _).mono ?_;rintro y w1 ⟨rfl,I⟩;clear ab;refine iX I bx bt J ?_;clear I bx bt J;intro _ bx bt J;have ab:=eE bx bt;cases q:Tree.of t e with
 |true=>
  have HQ:aK ((t==e)=true):=U q;clear q;go_wp2;refine bL (v:=.tuple #[.agg #[t,u,k,.slice A n c],false]) (by simp[results,results154,go_sem,ab]) rfl ⟨by unfold Tree.BC;rw[HQ.Z];rfl,aI (by omega) [_,_,_,_] 0 _ J⟩
 |false=>
  have HQ:aK ((t==e)=false):=U q;clear q;go_wp2;refine bL (v:=.tuple #[.agg #[e,l,.int .i64 (max m 0),()],true]) (by simp[results,results154,go_sem,ab]) rfl ⟨by unfold Tree.BC;rw[HQ.Z];rfl,aI (by omega) [_,_,_,_] 0 _ J⟩
end Go.Proofs.YtmgahjkopiaglaaGreat
