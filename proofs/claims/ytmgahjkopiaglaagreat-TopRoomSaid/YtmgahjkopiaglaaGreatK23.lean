/- Lemmas, walks and contracts by which the statement is proved. -/
import Derived.Test.YtmgahjkopiaglaaGreatK22
set_option maxRecDepth 100000
set_option maxHeartbeats 16000000
set_option linter.all false
namespace Go.Proofs.YtmgahjkopiaglaaGreat
open Go.RowKit Go.Proofs.Tryz
def Y.cf:Y Cf where
 size:=3
 pos:=by omega
 is fr w S cs p:=∃v0 v1 v2,cs=[v0,v1,v2]/\ay (Y.int) fr w S v0 p.aL/\ay (Y.msg.slice) fr w S v1 p.az/\ay (Y.int) fr w S v2 p.aQ
 len h:=by obtain⟨v0,v1,v2,rfl,h0,F,R⟩:=h;rfl
 aE h Q:=by obtain⟨v0,v1,v2,rfl,h0,F,R⟩:=h;exact⟨v0,v1,v2,rfl,h0.aE Q,F.aE Q,R.aE Q⟩
 aF h Q:=by obtain⟨v0,v1,v2,rfl,h0,F,R⟩:=h;exact⟨v0,v1,v2,rfl,h0.aF Q,F.aF Q,R.aF Q⟩
 soft h:=by obtain⟨v0,v1,v2,rfl,h0,F,R⟩:=h;exact⟨v0,v1,v2,rfl,h0.soft,F.soft,R.soft⟩
 one h:=by
  obtain⟨_,_,_,rfl,⟨_,_,rfl,_⟩,⟨_,_,rfl,_⟩,⟨_,_,rfl,_⟩⟩:=h;intro u hu;simp at hu;rcases hu with rfl |rfl |rfl<;>rfl
theorem da.cf{w:World}{S:Nat->Prop}{v:Value}{p:Cf}(h:da Y.cf w S v p):∃A0 A1 A2 k0 k1 k2,v=.agg #[.slice A0 p.aL.length k0,.slice A1 p.az.length k1,.slice A2 p.aQ.length k2]/\
 ay (Y.int) false w S (.slice A0 p.aL.length k0) p.aL/\ay (Y.msg.slice) false w S (.slice A1 p.az.length k1) p.az/\ay (Y.int) false w S (.slice A2 p.aQ.length k2) p.aQ:=by
 obtain⟨cs,rfl,v0,v1,v2,rfl,h0,F,R⟩:=h;obtain⟨A0,k0,rfl,_⟩:=id h0;obtain⟨A1,k1,rfl,_⟩:=id F;obtain⟨A2,k2,rfl,_⟩:=id R;exact⟨A0,A1,A2,k0,k1,k2,rfl,h0,F,R⟩
theorem da.XI{w:World}{S:Nat->Prop}{p:Cf}{v0 v1 v2:Value}(h0:ay (Y.int) false w S v0 p.aL)(F:ay (Y.msg.slice) false w S v1 p.az)(R:ay (Y.int) false w S v2 p.aQ):da Y.cf w S (.agg #[v0,v1,v2]) p:=
 ⟨[_,_,_],rfl,_,_,_,rfl,h0,F,R⟩
theorem dm.node2{fr:Bool}{w:World}{S:Nat->Prop}{k:Nat}{A:Option Addr}{xs:List iD}{x:iD}(h:dm Y.eC fr w S A xs)(D:xs[k]?=some x):
 ∃g o B c,A=some ⟨g,o,none⟩/\S g/\w.cell? ⟨g,o+k * 2,none⟩=some (.int .i64 x.start)/\w.cell? ⟨g,o+k * 2+1,none⟩=some (.slice B x.aL.length c)/\ay Y.eV fr w S (.slice B x.aL.length c) x.aL:=by
 obtain⟨g,o,v,rfl,F,R,h3,h4⟩:=h.eC D;obtain⟨B,c,rfl,_⟩:=id h4;exact⟨g,o,B,c,rfl,F,R,h3,h4⟩
theorem rv{a:Ap}{c:Cf}(h:¬((c.aL.length:Int)=a.n/\c.az.length=a.az.length/\c.aQ.length=a.az.length)):V.rj a c=false:=by
 unfold V.rj;by_cases F:(c.aL.length:Int)=a.n
 ·by_cases R:c.az.length=a.az.length
  ·have h3:¬c.aQ.length=a.az.length:=λh3=>h ⟨F,R,h3⟩;simp[h3]
  ·simp[R]
 ·simp[F]
theorem KW(va vc:Value)(a:Ap)(c:Cf)(w:World)(S:Nat->Prop)(hS:∀b,S b->b<w.1.size)(ha:da Y.ap w S va a)(hc:da Y.cf w S vc c)(hL:a.az.length<=1000)(hT:Tb.right a.n a.az a.T=true)(Uu:(a.T.length:Int)=a.n):
 Calls prog 165 #[va,vc] w λy w'=>y=.returned (.bool (V.rj a c))/\aY w w':=by
 obtain⟨nD,mU,mV,mm,rfl,kX,lM⟩:=ha.ap;obtain⟨CV,Cb,zK,AH,Cc,Cd,rfl,CQ,qX,oW⟩:=hc.cf;obtain⟨av,hR⟩:=cJ (V.rj a c);rw[hR];change aK _ at hR hT Uu hS;go_in;go_upto_region 1 with fail
 refine r9 λW1 ba bc I=>?_;have uD:=bc.lt;have J:=I;have z1:=I.size;clear I;have O:=eE ba bc;go_wp2_with fail;refine(ri _ _ a.T a.n a.az _ S (j2 hS J.size) (lM.aE (dx hS J)) (kX.aE (dx hS J)) hL).mono ?_;clear O;rintro e w2 ⟨rfl,I⟩;refine iX I ba bc J ?_;clear I ba bc J;intro z2 ba bc J;rw[hT.Z];by_cases q0:(c.aL.length:Int)=a.n
 case neg=>
  have b0:((c.aL.length:Int) !=a.n)=true:=by simpa using q0
  have HN:aK (av=false):=U (by rw[<-hR.Z];exact rv λh=>q0 (by omega));have O:=eE ba bc;go_wp2;go_ret;exact⟨by rw[HN.Z];rfl,J⟩
 have b0:((c.aL.length:Int) !=a.n)=false:=by simp[q0]
 by_cases q1:(c.az.length:Int)=(a.az.length:Int)
 case neg=>
  have b1:((c.az.length:Int) !=(a.az.length:Int))=true:=by simpa using(λe=>q1 (by omega))
  have HN:aK (av=false):=U (by rw[<-hR.Z];exact rv λh=>q1 (by omega));have O:=eE ba bc;go_wp2;go_ret;exact⟨by rw[HN.Z];rfl,J⟩
 have b1:((c.az.length:Int) !=(a.az.length:Int))=false:=by simp[q1]
 by_cases q2:(c.aQ.length:Int)=(a.az.length:Int)
 case neg=>
  have b2:((c.aQ.length:Int) !=(a.az.length:Int))=true:=by simpa using(λe=>q2 (by omega))
  have HN:aK (av=false):=U (by rw[<-hR.Z];exact rv λh=>q2 (by omega));have O:=eE ba bc;go_wp2;go_ret;exact⟨by rw[HN.Z];rfl,J⟩
 have b2:((c.aQ.length:Int) !=(a.az.length:Int))=false:=by simp[q2]
 have HQ:aK (av=(((List.range c.aL.length).all λi=>decide (0<=c.aL.getD i 0)&&decide (c.aL.getD i 0<((a.T.getD i ⟨0,[]⟩).aL.length:Int)))&&((List.range c.az.length).all λi=>Pn.gM (c.aQ.getD i 0) 0 (c.az.getD i [])))):=U (by rw[<-hR.Z];unfold V.rj;rw[cV q0,cV (by omega:c.az.length=a.az.length),cV (by omega:c.aQ.length=a.az.length)];rfl);obtain⟨P1,j9⟩:∃p:Nat->Bool,(λi:Nat=>decide (0<=c.aL.getD i 0)&&decide (c.aL.getD i 0<((a.T.getD i ⟨0,[]⟩).aL.length:Int)))=p:=⟨_,rfl⟩;obtain⟨P2,VS⟩:∃p:Nat->Bool,(λi:Nat=>Pn.gM (c.aQ.getD i 0) 0 (c.az.getD i []))=p:=⟨_,rfl⟩;rw[j9,VS] at HQ;change aK _ at j9 VS;have rI:c.aL.length=a.T.length:=by have:=Uu.Z;omega
 have xm:c.aQ.length=c.az.length:=by omega
 change aK _ at rI xm;have VT:=CQ.bounds;have XJ:=qX.bounds;clear q0 q1 q2;have O:=eE ba bc;go_wp2;clear O;clear b0 b1 b2;go_loopg [5,6,47] c.aL.length (λq _ _ i wr=>∃j:Nat,i=.int .i64 (j:Int)/\j<=c.aL.length/\q=c.aL.length-j/\mP P1 j/\G wr (w.1.size) #[a.n,.slice nD a.az.length mV,.slice mU a.T.length mm,a.bF] 27/\G wr (w.1.size+1) #[.slice CV c.aL.length AH,.slice Cb c.az.length Cc,.slice zK c.aQ.length Cd] 39/\aY w wr)
 case atStart=>exact⟨0,rfl,by omega,by omega,λi hi=>absurd hi (jO _),ba,bc,J⟩
 case round=>
  clear ba bc J;obtain⟨j,rfl,hj,Q,Gk,ba,bc,J⟩:=hrel;have Hk:=U Q;clear Q;replace Gk:=U Gk;by_cases bY:j<c.aL.length
  case pos=>
   obtain⟨s,hs⟩:=Pc.get_at bY;obtain⟨x,D⟩:=Pc.get_at (show j<a.T.length by have:=rI.Z;omega);obtain⟨gs,os,rfl,Fm,c0⟩:=((CQ.aE (dx hS J))).arr.qW hs;have gg:gs<wr.1.size:=aU (hS gs Fm) J.size;obtain⟨gt,ot,B,kc,rfl,PZ,_,c1,gw⟩:=((lM.aE (dx hS J))).arr.node2 D;have yZ:gt<wr.1.size:=aU (hS gt PZ) J.size;have SH:=gw.bounds;have hjt:j<a.T.length:=(eD.1 D).1;have Jt:P1 j=(decide (0<=s)&&decide (s<(x.aL.length:Int))):=by rw[<-j9.Z];simp[dB,hs,D]
   change aK _ at Jt;replace hs:=U hs;replace D:=U D;replace gw:=U gw;by_cases F:s<0
   case pos=>
    have HN:aK (av=false):=U (by rw[HQ.Z,dJ bY (by rw[Jt.Z,bZ (by omega:¬0<=s)];rfl)];rfl);have O:=eE ba bc;go_wp2;go_ret;exact⟨by rw[HN.Z];rfl,J⟩
   by_cases R:s<(x.aL.length:Int)
   case neg=>
    have h3:s>=(x.aL.length:Int):=by omega
    have HN:aK (av=false):=U (by rw[HQ.Z,dJ bY (by rw[Jt.Z,bZ R];simp)];rfl);have O:=eE ba bc;go_wp2;go_ret;exact⟨by rw[HN.Z];rfl,J⟩
   have h3:¬s>=(x.aL.length:Int):=by omega
   have O:=eE ba bc;go_wp2;go_roundg (c.aL.length-(j+1))
   case rel=>exact⟨j+1,by simp,by omega,rfl,mP.next Gk.Z (by rw[Jt.Z,cV (by omega:0<=s),cV R];rfl),ba,bc,J⟩
   case measure=>have:=Hk.Z;omega
  obtain rfl:j=c.aL.length:=by omega
  have HF:aK (av=(List.range c.az.length).all P2):=U (by rw[HQ.Z,mP.all Gk.Z];rfl);have O:=eE ba bc;go_wp2;clear O;go_loopg [7,8,69] c.az.length (λq _ _ i wr=>∃j:Nat,i=.int .i64 (j:Int)/\j<=c.az.length/\q=c.az.length-j/\mP P2 j/\G wr (w.1.size) #[a.n,.slice nD a.az.length mV,.slice mU a.T.length mm,a.bF] 27/\G wr (w.1.size+1) #[.slice CV c.aL.length AH,.slice Cb c.az.length Cc,.slice zK c.aQ.length Cd] 39/\aY w wr)
  case atStart=>exact⟨0,rfl,by omega,by omega,λi hi=>absurd hi (jO _),ba,bc,J⟩
  case round=>
   clear ba bc J bY hj;obtain⟨j,rfl,hj,Q,SI,ba,bc,J⟩:=hrel;change aK _ at Q;replace SI:=U SI;by_cases bY:j<c.az.length
   case pos=>
    obtain⟨l,hl⟩:=Pc.get_at bY;obtain⟨s,hs⟩:=Pc.get_at (show j<c.aQ.length by have:=xm.Z;omega);obtain⟨gl,ol,B,kc,rfl,gg,c0,qT⟩:=((qX.aE (dx hS J))).arr.row hl;have adi:gl<wr.1.size:=aU (hS gl gg) J.size;obtain⟨gs,os,rfl,Fm,c1⟩:=((oW.aE (dx hS J))).arr.qW hs;have yZ:gs<wr.1.size:=aU (hS gs Fm) J.size;have hjs:j<c.aQ.length:=(eD.1 hs).1;have Jt:P2 j=Pn.gM s 0 l:=by rw[<-VS.Z];simp[dB,hs,hl]
    have bb3:=oW.bounds;change aK _ at Jt;replace hs:=U hs;replace hl:=U hl;replace qT:=U qT;have O:=eE ba bc;go_wp2_with fail;refine(M5 _ l s _ S (j2 hS J.size) qT.Z).mono ?_;clear O;rintro e w31 ⟨rfl,I⟩;refine iX I ba bc J ?_;clear I ba bc J;intro z31 ba bc J;rw[<-Jt.Z];cases q:P2 j
    case false=>
     have HN:aK (av=false):=U (by rw[HF.Z,dJ bY q]);have O:=eE ba bc;go_wp2;go_ret;exact⟨by rw[HN.Z];rfl,J⟩
    have kr:=mP.next SI.Z q;replace kr:=U kr;clear q;have O:=eE ba bc;go_wp2;go_roundg (c.az.length-(j+1))
    case rel=>exact⟨j+1,by simp,by omega,rfl,kr.Z,ba,bc,J⟩
    case measure=>have:=Q.Z;omega
   obtain rfl:j=c.az.length:=by omega
   have HN:aK (av=true):=U (by rw[HF.Z,mP.all SI.Z]);have O:=eE ba bc;go_wp2;go_ret;exact⟨by rw[HN.Z];rfl,J⟩
def V.AI(a:Ap)(l:List Pc.bG)(i:Nat):Bool:=decide ((l.getD i jV).node=(i:Int))&&(Pc.right (l.getD i jV)&&(decide ((l.getD i jV).state<((a.T.getD i ⟨0,[]⟩).aL.length:Int))&&(decide ((l.getD i jV).aQ.length=(Gr.outs a.az i).length)&&decide ((l.getD i jV).bD.length=(Gr.ins a.az i).length))))
theorem ay.SJ{w:World}{S:Nat->Prop}{x:Pc.bG}{a b c:Value}(hS:∀b,S b->b<w.1.size)(h0:ay Y.int false w S a x.aQ)(F:ay Y.msg.slice false w S b x.bD)(R:ay Y.int.slice false w S c x.Z):iq false w 0 w.1.size (.agg #[x.node,x.state,x.steps,a,b,c]) x:=
 ⟨a,b,c,rfl,h0.aF λb q=>⟨fH _,hS b q⟩,F.aF λb q=>⟨fH _,hS b q⟩,R.aF λb q=>⟨fH _,hS b q⟩⟩
theorem KX(va:Value)(a:Ap)(l:List Pc.bG)(A:Option Addr)(k:Nat)(w:World)(S:Nat->Prop)(hS:∀b,S b->b<w.1.size)(ha:da Y.ap w S va a)(hl:ay Y.piece false w S (.slice A l.length k) l)(hL:a.az.length<=1000)(hT:Tb.right a.n a.az a.T=true)(Uu:(a.T.length:Int)=a.n):
 Calls prog 161 #[va,.slice A l.length k] w λy w'=>y=.returned (.bool (V.whole a l))/\aY w w':=by
 obtain⟨nD,mU,mV,mm,rfl,kX,lM⟩:=ha.ap;obtain⟨av,hR⟩:=cJ (V.whole a l);rw[hR];have XK:=hl.bounds;change aK _ at hR hT Uu hS;go_in;go_upto_region 1 with fail
 refine nw λW1 ba I=>?_;have uD:w.1.size+1<=W1.1.size:=by have:=ba.lt;omega
 have J:=I;have z1:=I.size;clear I;have O:=ch ba;go_wp2_with fail;refine(ri _ _ a.T a.n a.az _ S (j2 hS J.size) (lM.aE (dx hS J)) (kX.aE (dx hS J)) hL).mono ?_;clear O;rintro e w2 ⟨rfl,I⟩;refine lW I ba J ?_;clear I ba J;intro z2 ba J;rw[hT.Z];by_cases q0:(l.length:Int)=a.n
 case neg=>
  have b0:((l.length:Int) !=a.n)=true:=by simpa using q0
  have HN:aK (av=false):=U (by rw[<-hR.Z];unfold V.whole;rw[bZ q0];rfl);have O:=ch ba;go_wp2;go_ret;exact⟨by rw[HN.Z];rfl,J⟩
 have b0:((l.length:Int) !=a.n)=false:=by simp[q0]
 have HQ:aK (av=(List.range l.length).all (V.AI a l)):=U (by rw[<-hR.Z];unfold V.whole;rw[cV q0];rfl);have rI:l.length=a.T.length:=by have:=Uu.Z;omega
 change aK _ at rI;clear q0;have O:=ch ba;go_wp2;clear O;clear b0;go_loopg [5,6,23] l.length (λq _ _ i wr=>∃j:Nat,i=.int .i64 (j:Int)/\j<=l.length/\q=l.length-j/\mP (V.AI a l) j/\G wr (w.1.size) #[a.n,.slice nD a.az.length mV,.slice mU a.T.length mm,a.bF] 27/\aY w wr)
 case atStart=>exact⟨0,rfl,by omega,by omega,λi hi=>absurd hi (jO _),ba,J⟩
 case round=>
  clear ba J;obtain⟨j,rfl,hj,Q,Gk,ba,J⟩:=hrel;change aK _ at Q;replace Gk:=U Gk;by_cases bY:j<l.length
  case pos=>
   obtain⟨x,D⟩:=Pc.get_at bY;obtain⟨z,hz⟩:=Pc.get_at (show j<a.T.length by have:=rI.Z;omega);have hjt:j<a.T.length:=(eD.1 hz).1;have Jt:V.AI a l j=(decide (x.node=(j:Int))&&(Pc.right x&&(decide (x.state<(z.aL.length:Int))&&(decide (x.aQ.length=(Gr.outs a.az j).length)&&decide (x.bD.length=(Gr.ins a.az j).length))))):=by unfold V.AI;simp only[dB,D,hz,pM]
   obtain⟨gx,ox,B0,c0,B1,c1,B2,c2,hA,jy,hc,AE,iP,iF⟩:=((hl.aE (dx hS J))).arr.mw D;subst hA;have gg:gx<wr.1.size:=aU (hS gx jy) J.size;have hr:∀b,S b->b<wr.1.size:=(j2 hS J.size);change aK _ at hr;have d0:=hc 0 (by omega);have d1:=hc 1 (by omega);have d2:=hc 2 (by omega);have d3:=hc 3 (by omega);have d4:=hc 4 (by omega);have d5:=hc 5 (by omega);simp only[eR,eZ,iS] at d0 d1 d2 d3 d4 d5;clear hc;obtain⟨lo,pe⟩:=cJ (Gr.outs a.az (j:Int));obtain⟨li,hli⟩:=cJ (Gr.ins a.az (j:Int));obtain⟨pr,XF⟩:=cJ (Pc.right x);rw[pe,hli,XF] at Jt;have VT:=AE.bounds;have XJ:=iP.bounds;change aK _ at Jt pe hli XF;replace D:=U D;replace hz:=U hz;replace AE:=U AE;replace iP:=U iP;replace iF:=U iF;have hO:=bI wr.1.size wr;go_upto_region 6 with fail
   refine nw λOM bx I=>?_;have YU:wr.1.size+1<=OM.1.size:=by have:=bx.lt;omega
   refine iX I ba hO J ?_;clear I ba hO J;intro z21 ba hO J;clear d0 d1 d2 d3 d4 d5;by_cases q1:x.node=(j:Int)
   case neg=>
    have b1:(x.node !=(j:Int))=true:=by simpa using(λe=>q1 (by omega))
    replace q1:=U q1;refine rg 550024249408 λrQ I K=>?_;refine ja I ba bx hO J ?_;clear I ba bx hO J;intro L3 ba bx hO J;have O:=eE ba bx;refine aG [0,1,2,3,4,5] 37 ?_;go_wp2;clear O;refine oJ 6 ?_;go_wp2;refine⟨λ_=>K,?_⟩;have O:=eE ba bx;refine aG [7,8,9,10,11,12,13,14,15,16,17,18,19,20,21,25,26,27] 18 ?_;go_wp2;refine fX ?_;clear O;refine df K _ _ _ _ ?_;clear K;have K:=Ext.refl rQ;have O:=eE ba bx;refine rD [22,23,24] 15 ?_;go_wp2;refine iJ ?_;clear O;refine oN 28 ?_;go_wp2;refine⟨λ_=>K,?_⟩;have O:=eE ba bx;refine aG [29,30,31,32,36,37,38] 7 ?_;go_wp2;refine fX ?_;clear O;refine df K _ _ _ _ ?_;clear K;have K:=Ext.refl rQ;have O:=eE ba bx;refine rD [33,34,35] 4 ?_;go_wp2;refine iJ ?_;clear O;refine oN 39 ?_;go_wp2;refine⟨λ_=>K,?_⟩;refine aG [40,41,42] 0 ?_;go_wp2;refine eJ ?_;go_wp2;have HN:aK (av=false):=U (by rw[HQ.Z,dJ bY (by rw[Jt.Z,bZ q1.Z];rfl)]);go_ret;exact⟨by rw[HN.Z];rfl,J⟩
   have b1:(x.node !=(j:Int))=false:=by simp[q1]
   replace q1:=U q1;refine rg 550024249408 λrQ I K=>?_;refine ja I ba bx hO J ?_;clear I ba bx hO J;intro L3 ba bx hO J;have O:=eE ba bx;refine aG [0,1,2,3,4,5] 37 ?_;go_wp2;clear O;refine oJ 6 ?_;go_wp2_with fail;refine(Dz _ x _ (ay.SJ (S:=S) (j2 hS J.size) (AE.aE (dx hr hO)) (iP.aE (dx hr hO)) (iF.aE (dx hr hO)))).mono ?_;rintro e w23 ⟨rfl,I⟩;refine lD I ba bx hO K J ?_;clear I ba bx hO K J;intro z23 ba bx hO K J;rw[XF.Z];go_wp2;refine⟨λ_=>K,?_⟩;cases pr
   case false=>
    have O:=eE ba bx;refine aG [7,8,9,10,11,12,13,14,15,16,17,18,19,20,21,25,26,27] 18 ?_;go_wp2;refine fX ?_;clear O;try clear e1 yZ
    refine df K _ _ _ _ ?_;clear K;have K:=Ext.refl w23;have O:=eE ba bx;refine rD [22,23,24] 15 ?_;go_wp2;refine iJ ?_;clear O;refine oN 28 ?_;go_wp2;refine⟨λ_=>K,?_⟩;have O:=eE ba bx;refine aG [29,30,31,32,36,37,38] 7 ?_;go_wp2;refine fX ?_;clear O;refine df K _ _ _ _ ?_;clear K;have K:=Ext.refl w23;have O:=eE ba bx;refine rD [33,34,35] 4 ?_;go_wp2;refine iJ ?_;clear O;refine oN 39 ?_;go_wp2;refine⟨λ_=>K,?_⟩;refine aG [40,41,42] 0 ?_;go_wp2;refine eJ ?_;go_wp2;have HN:aK (av=false):=U (by rw[HQ.Z,dJ bY (by rw[Jt.Z,pt];simp)]);go_ret;exact⟨by rw[HN.Z];rfl,J⟩
   obtain⟨gt,ot,B,kc,XL,PZ,_,e1,gw⟩:=((lM.aE (dx hS J))).arr.node2 hz.Z;subst XL;have yZ:gt<w23.1.size:=aU (hS gt PZ) J.size;have SH:=gw.bounds;by_cases q3:x.state<(z.aL.length:Int)
   case neg=>
    have b3:x.state>=(z.aL.length:Int):=by omega
    replace q3:=U q3;have O:=eE ba bx;refine aG [7,8,9,10,11,12,13,14,15,16,17,18,19,20,21,25,26,27] 18 ?_;go_wp2;refine fX ?_;clear O;try clear e1 yZ
    refine df K _ _ _ _ ?_;clear K;have K:=Ext.refl w23;have O:=eE ba bx;refine rD [22,23,24] 15 ?_;go_wp2;refine iJ ?_;clear O;refine oN 28 ?_;go_wp2;refine⟨λ_=>K,?_⟩;have O:=eE ba bx;refine aG [29,30,31,32,36,37,38] 7 ?_;go_wp2;refine fX ?_;clear O;refine df K _ _ _ _ ?_;clear K;have K:=Ext.refl w23;have O:=eE ba bx;refine rD [33,34,35] 4 ?_;go_wp2;refine iJ ?_;clear O;refine oN 39 ?_;go_wp2;refine⟨λ_=>K,?_⟩;refine aG [40,41,42] 0 ?_;go_wp2;refine eJ ?_;go_wp2;have HN:aK (av=false):=U (by rw[HQ.Z,dJ bY (by rw[Jt.Z,bZ (show ¬x.state<(z.aL.length:Int) by have:=q3.Z;omega)];simp)]);go_ret;exact⟨by rw[HN.Z];rfl,J⟩
   have b3:¬x.state>=(z.aL.length:Int):=by omega
   replace q3:=U q3;have O:=eE ba bx;refine aG [7,8,9,10,11,12,13,14,15,16,17,18,19,20,21,25,26,27] 18 ?_;go_wp2;refine fX ?_;clear O;try clear e1 yZ
   refine df K _ _ _ _ ?_;clear K;have K:=Ext.refl w23;have O:=eE ba bx;refine rD [22,23,24] 15 ?_;go_wp2;refine iJ ?_;clear O;refine oN 28 ?_;go_wp2_with fail;refine(mQ a.n j _ a.az _ (kX.zero hS.Z J) (by omega)).mono ?_;rintro e RG ⟨⟨u,rfl,hu⟩,I⟩;refine lD I ba bx hO K J ?_;clear I ba bx hO K J;intro z24 ba bx hO K J;rw[pe.Z] at hu;obtain⟨uA1,uk1,rfl,hul1,hum1,_⟩:=hu;unfold maxLen at hum1;go_wp2;refine⟨λ_=>K,?_⟩;by_cases q4:(x.aQ.length:Int)=(lo.length:Int)
   case neg=>
    have b4:((x.aQ.length:Int) !=(lo.length:Int))=true:=by simpa using(λe=>q4 (by omega))
    replace q4:=U q4;have O:=eE ba bx;refine aG [29,30,31,32,36,37,38] 7 ?_;go_wp2;refine fX ?_;clear O;refine df K _ _ _ _ ?_;clear K;have K:=Ext.refl RG;have O:=eE ba bx;refine rD [33,34,35] 4 ?_;go_wp2;refine iJ ?_;clear O;refine oN 39 ?_;go_wp2;refine⟨λ_=>K,?_⟩;refine aG [40,41,42] 0 ?_;go_wp2;refine eJ ?_;go_wp2;have HN:aK (av=false):=U (by rw[HQ.Z,dJ bY (by rw[Jt.Z,bZ (show ¬x.aQ.length=lo.length by have:=q4.Z;omega)];simp)]);go_ret;exact⟨by rw[HN.Z];rfl,J⟩
   have b4:((x.aQ.length:Int) !=(lo.length:Int))=false:=by simp[q4]
   replace q4:=U q4;have O:=eE ba bx;refine aG [29,30,31,32,36,37,38] 7 ?_;go_wp2;refine fX ?_;clear O;refine df K _ _ _ _ ?_;clear K;have K:=Ext.refl RG;have O:=eE ba bx;refine rD [33,34,35] 4 ?_;go_wp2;refine iJ ?_;clear O;refine oN 39 ?_;go_wp2_with fail;refine(mF a.n j _ a.az _ (kX.zero hS.Z J) (by omega)).mono ?_;rintro e Ur ⟨⟨u,rfl,hu⟩,I⟩;refine lD I ba bx hO K J ?_;clear I ba bx hO K J;intro z25 ba bx hO K J;rw[hli.Z] at hu;obtain⟨uA2,uk2,rfl,hul2,hum2,_⟩:=hu;unfold maxLen at hum2;go_wp2;refine⟨λ_=>K,?_⟩;by_cases q5:(x.bD.length:Int)=(li.length:Int)
   case neg=>
    have b5:((x.bD.length:Int) !=(li.length:Int))=true:=by simpa using(λe=>q5 (by omega))
    replace q5:=U q5;refine aG [40,41,42] 0 ?_;go_wp2;refine eJ ?_;go_wp2;have HN:aK (av=false):=U (by rw[HQ.Z,dJ bY (by rw[Jt.Z,bZ (show ¬x.bD.length=li.length by have:=q5.Z;omega)];simp)]);go_ret;exact⟨by rw[HN.Z];rfl,J⟩
   have b5:((x.bD.length:Int) !=(li.length:Int))=false:=by simp[q5]
   replace q5:=U q5;refine aG [40,41,42] 0 ?_;go_wp2;refine eJ ?_;go_wp2;go_roundg (l.length-(j+1))
   case rel=>exact⟨j+1,by simp,by omega,rfl,mP.next Gk.Z (by rw[Jt.Z,cV q1.Z,cV q3.Z,cV (show x.aQ.length=lo.length by have:=q4.Z;omega),cV (show x.bD.length=li.length by have:=q5.Z;omega)];rfl),ba,J⟩
   case measure=>have:=Q.Z;omega
  obtain rfl:j=l.length:=by omega
  have HN:aK (av=true):=U (by rw[HQ.Z,mP.all Gk.Z]);have O:=ch ba;go_wp2;go_ret;exact⟨by rw[HN.Z];rfl,J⟩
theorem Gr.FO{l:List (Int×Int)}{n:Int}{e:Bool}{i:Nat}(he:Gr.end_ e (Gr.at_ l i)=n):∀ {k:Nat},i<k->(i:Int)∈Gr.upto l n e k
 |k+1,h=>by
  unfold Gr.upto;by_cases Q:i=k
  ·subst Q;rw[aS he];simp
  ·have:=Gr.FO he (k:=k) (by omega);split
   ·exact EU _ this
   ·exact this
theorem Ih{l:List Int}{x:Int}(h:x∈l):∃j:Nat,V.place l x=j/\j<l.length:=
 mH ((Pc.tO _ l).2.2 (qI.2 ⟨x,h,cV rfl⟩))
theorem Ep:∀(l:List (Int×Int))(k:Int),0<=k->Pc.rising k l=true->∀m∈l,Wf m.1
 |[],_,_,_,_,h=>by cases h
 |m::t,k,Q,h,m2,hm=>by
  unfold Pc.rising at h;rw[cQ,dC] at h;rcases jQ.1 hm with rfl |hm
  ·exact Uf (by omega) (by omega)
  ·exact Ep t m.1 (by omega) h.2 m2 hm
structure Uv(a:Ap)(l:List Pc.bG)(i:Nat)(x y:Pc.bG)(p q o j:Nat):Prop where
 at_:a.az[i]?=some ((p:Int),(q:Int))
 xp:l[p]?=some x
 yq:l[q]?=some y
 xn:x.node=p
 yn:y.node=q
 io:Pc.idx (λz=>decide (z=(i:Int))) (Gr.outs a.az p)=o
 ij:Pc.idx (λz=>decide (z=(i:Int))) (Gr.ins a.az q)=j
 os:o<x.aQ.length
 js:j<y.bD.length
 Z:∀r∈x.Z,r.length<=500
 bD:∀r∈y.bD,r.length<=500/\∀m∈r,Wf m.1
theorem KY{a:Ap}{l:List Pc.bG}{i:Nat}(hi:i<a.az.length)(hT:Tb.right a.n a.az a.T=true)(hw:V.whole a l=true):∃x y p q o j,Uv a l i x y p q o j:=by
 have hG:Gr.right a.n a.az=true:=by unfold Tb.right at hT;exact(cQ _ _▸hT).1
 obtain⟨_,_,_,hG⟩:=Gr.yy hG;obtain⟨⟨p,q⟩,D⟩:=Pc.get_at hi;obtain⟨⟨F,R⟩,⟨h3,h4⟩,_,_⟩:=hG _ (dV D);obtain⟨p,rfl⟩:∃k:Nat,p=k:=⟨p.toNat,by omega⟩;obtain⟨q,rfl⟩:∃k:Nat,q=k:=⟨q.toNat,by omega⟩;unfold V.whole at hw;rw[cQ,dC] at hw;have jK:=Gr.uz D;obtain⟨x,hp⟩:=Pc.get_at (show p<l.length by have:=hw.1;dsimp only at R;omega);obtain⟨y,hq⟩:=Pc.get_at (show q<l.length by have:=hw.1;dsimp only at h4;omega);have e1:=eT.1 hw.2 p (ke.2 (eD.1 hp).1);have e2:=eT.1 hw.2 q (ke.2 (eD.1 hq).1);simp only[dB,hp,hq,pM,cQ,dC] at e1 e2;obtain⟨o,ho,ho2⟩:=Ih (Gr.FO (l:=a.az) (n:=p) (e:=false) (by rw[jK];rfl) hi);obtain⟨j,hj,jx⟩:=Ih (Gr.FO (l:=a.az) (n:=q) (e:=true) (by rw[jK];rfl) hi);have r1:=e1.2.1;have r2:=e2.2.1;unfold Pc.right at r1 r2;simp only[cQ,eT] at r1 r2;refine⟨x,y,p,q,o,j,D,hp,hq,e1.1,e2.1,ho,hj,by rw[e1.2.2.2.1];exact ho2,by rw[e2.2.2.2.2];exact jx,λr hr=>?_,λr hr=>?_⟩
 ·have:=r1.2.2.2 r hr;unfold Pc.wu at this;rw[cQ,dC] at this;exact this.1
 ·have h:=r2.2.2.1 r hr;have:=Pc.uM r 0 h (by omega);exact⟨by omega,Ep r 0 (wm _) h⟩
theorem Nz{a:Ap}{l:List Pc.bG}{i:Nat}{x y:Pc.bG}{p q o j:Nat}(h:Uv a l i x y p q o j)(iU:Bool):V.sU a l i iU=if iU=false then some (x.aQ.getD o 0,y.bD.getD j []) else
 if o<x.Z.length/\((x.Z.getD o []).length:Int)=x.aQ.getD o 0/\Hu.mixed (x.Z.getD o []) (y.bD.getD j [])=false then some (x.aQ.getD o 0,Hu.rest (x.Z.getD o []) (y.bD.getD j [])) else none:=by
 have F:l.getD p V.jV=x:=by rw[dB,h.xp];rfl
 have R:l.getD q V.jV=y:=by rw[dB,h.yq];rfl
 have h3:V.place (Gr.outs a.az p) i=o:=h.io;have h4:V.place (Gr.ins a.az q) i=j:=h.ij;unfold V.sU;simp only[Gr.uz h.at_,dG,F,R,h.xn,h.yn,h3,h4]
theorem Ext.xI{wM w:World}{g:Nat}{a0 a1 a2 a3 a4 a5:Value}(h:Ext wM w)(hg:wM.1.size<=g):Ext wM (JM w g a0 a1 a2 a3 a4 a5):=
 ⟨by have:=h.size;simpa[JM,World.setCell] using this,λb I=>(lI (by omega)).trans (h.block b I)⟩
theorem Below.xI{lo:Nat}{w0 w:World}{g:Nat}{a0 a1 a2 a3 a4 a5:Value}(h:Below lo w0 w)(hg:lo<=g):Below lo w0 (JM w g a0 a1 a2 a3 a4 a5):=(((((h.setCell hg _).setCell hg _).setCell hg _).setCell hg _).setCell hg _).setCell hg _
theorem NB(va:Value)(a:Ap)(l:List Pc.bG)(A:Option Addr)(k i:Nat)(iU:Bool)(w:World)(S:Nat->Prop)(hS:∀b,S b->b<w.1.size)(ha:da Y.ap w S va a)(hl:ay Y.piece false w S (.slice A l.length k) l)(hL:a.az.length<=1000)(hT:Tb.right a.n a.az a.T=true)(hw:V.whole a l=true)(hi:i<a.az.length):
 Calls prog 164 #[va,.slice A l.length k,(i:Int),iU] w λy w'=>((V.sU a l i iU=none/\y=.panicked [{v:=.iface 276 (.agg #[]),recovered:=false}])\/∃s ms u,V.sU a l i iU=some (s,ms)/\y=.returned (.tuple #[.int .i64 s,u])/\aM Y.msg true w' w.1.size w'.1.size u ms)/\aY w w':=by
 obtain⟨nD,mU,mV,mm,rfl,kX,lM⟩:=ha.ap;obtain⟨x,y,p,q,o,j,hF⟩:=KY hi hT hw;have hR:=Nz hF iU;obtain⟨av,hr⟩:=cJ (V.sU a l i iU);rw[hr] at hR⊢;have XK:=hl.bounds;clear hT hw;obtain⟨gx,ox,rfl,_⟩:∃g o,A=some ⟨g,o,none⟩/\True:=by obtain⟨g,o,_,_,_,_,_,_,e,_⟩:=hl.arr.mw hF.xp;exact⟨g,o,e,trivial⟩
 obtain⟨sn,Dc⟩:=Pc.get_at hF.os;obtain⟨rw_,qC⟩:=Pc.get_at hF.js;have Yu:=hF.os;have hjs:=hF.js;have XE:x.aQ.getD o 0=sn:=by rw[dB,Dc];rfl
 have hrd:y.bD.getD j []=rw_:=by rw[dB,qC];rfl
 rw[XE,hrd] at hR;have FP:=hF.bD rw_ (dV qC);obtain⟨aw,O,xA0,xc0,xA1,xc1,xA2,xc2,e1,jy,OJ,AE,iP,iF⟩:=hl.arr.mw hF.xp;injection e1 with e1;injection e1 with e1 e2 _;subst e1 e2
 obtain⟨aw,O,yA0,yc0,yA1,yc1,yA2,yc2,e1,_,Uw,hy0,hy1,RB⟩:=hl.arr.mw hF.yq;injection e1 with e1;injection e1 with e1 e2 _;subst e1 e2
 obtain⟨gl,ol,rfl,gg,m0,m1⟩:=dm.yY kX.arr hF.at_;dsimp only at m0 m1;have HM0:=U m0;have HM1:=U m1;clear m0 m1;have rT:p<l.length:=(eD.1 hF.xp).1;have Ud:q<l.length:=(eD.1 hF.yq).1;replace hF:=U hF;replace hR:=U hR;change aK _ at hr XE hrd hS;replace Dc:=U Dc;replace qC:=U qC;replace hl:=U hl;replace AE:=U AE;replace iP:=U iP;replace iF:=U iF;replace hy0:=U hy0;replace hy1:=U hy1;replace RB:=U RB;replace FP:=U FP;replace OJ:=U OJ;replace Uw:=U Uw;go_in;go_upto_region 1 with fail
 refine nw λW1 ba I=>?_;have uD:w.1.size+1<=W1.1.size:=by have:=ba.lt;omega
 have J:=I;have z1:=I.size;clear I;go_cut [10,11] (λu v wx=>∃gp gq:Nat,u=.pointer gp/\v=.pointer gq/\w.1.size<gp/\w.1.size<gq/\gp≠gq/\G wx (w.1.size) #[a.n,.slice (some ⟨gl,ol,none⟩) a.az.length mV,.slice mU a.T.length mm,a.bF] 27/\G wx gp #[x.node,x.state,x.steps,.slice xA0 x.aQ.length xc0,.slice xA1 x.bD.length xc1,.slice xA2 x.Z.length xc2] 112/\G wx gq #[y.node,y.state,y.steps,.slice yA0 y.aQ.length yc0,.slice yA1 y.bD.length yc1,.slice yA2 y.Z.length yc2] 112/\aY w wx)
 case first=>
  refine rg 12582912 λW2 I K=>?_;refine lW I ba J ?_;clear I ba J;intro z2 ba J;have d0:=(J.cell (hS.Z gx jy)).trans (OJ.Z 0 (by omega));have e0:=(J.cell (hS.Z gx jy)).trans (Uw.Z 0 (by omega));have d1:=(J.cell (hS.Z gx jy)).trans (OJ.Z 1 (by omega));have e1:=(J.cell (hS.Z gx jy)).trans (Uw.Z 1 (by omega));have d2:=(J.cell (hS.Z gx jy)).trans (OJ.Z 2 (by omega));have e2:=(J.cell (hS.Z gx jy)).trans (Uw.Z 2 (by omega));have d3:=(J.cell (hS.Z gx jy)).trans (OJ.Z 3 (by omega));have e3:=(J.cell (hS.Z gx jy)).trans (Uw.Z 3 (by omega));have d4:=(J.cell (hS.Z gx jy)).trans (OJ.Z 4 (by omega));have e4:=(J.cell (hS.Z gx jy)).trans (Uw.Z 4 (by omega));have d5:=(J.cell (hS.Z gx jy)).trans (OJ.Z 5 (by omega));have e5:=(J.cell (hS.Z gx jy)).trans (Uw.Z 5 (by omega));simp only[eR,eZ,iS] at d0 d1 d2 d3 d4 d5 e0 e1 e2 e3 e4 e5;have m0:=(J.cell (hS.Z gl gg)).trans HM0.Z;have m1:=(J.cell (hS.Z gl gg)).trans HM1.Z;have adi:gl<W2.1.size:=aU (hS gl gg) J.size;have acF:gx<W2.1.size:=aU (hS gx jy) J.size;have OO:=ch ba;refine aG [0,1,2,3,4,5,6,7,8,9] 14 ?_;go_wp2;clear OO;have OO:=ch ba;refine rJ [10,11,12,13,14,15,16,17,18,19] 4 ?_;go_wp2;refine iJ ?_;clear OO;refine tW 20 21 ?_ ?_;all_goals
   go_wp2;refine⟨λ_=>K.trans (Ext.below (cT.alloc bE _) bE),?_⟩
  ·refine nb λW3 bp I=>?_;have y3:=bp.lt;refine iX I ba K J ?_;clear I ba K J;intro z3 ba K J;refine aG [21] 2 ?_;go_wp2;refine fX ?_;refine nb λW4 bq I=>?_;have y4:=bq.lt;refine ja I ba bp K J ?_;clear I ba bp K J;intro z4 ba bp K J;refine oN 22 ?_;have OO:=eE bp bq;go_wp2;clear OO;refine⟨λ_=>Ext.xI K (by omega),?_⟩;refine cd λW5 hW=>?_;replace K:Ext W2 W5:=hW▸Ext.xI K (by omega);replace J:aY w W5:=hW▸Below.xI J (by omega);replace bp:G W5 (W2.1.size) #[x.node,x.state,x.steps,.slice xA0 x.aQ.length xc0,.slice xA1 x.bD.length xc1,.slice xA2 x.Z.length xc2] 112:=G.eqv hW (Am bp);replace bq:=G.eqv hW (bq.lI (by omega));replace ba:=G.eqv hW (ba.lI (by omega));clear hW;refine oN 23 ?_;have OO:=eE bp bq;go_wp2;clear OO;refine⟨λ_=>Ext.xI K (by omega),?_⟩;refine cd λW6 hW=>?_;replace K:Ext W2 W6:=hW▸Ext.xI K (by omega);replace J:aY w W6:=hW▸Below.xI J (by omega);replace bq:G W6 (W3.1.size) #[y.node,y.state,y.steps,.slice yA0 y.aQ.length yc0,.slice yA1 y.bD.length yc1,.slice yA2 y.Z.length yc2] 112:=G.eqv hW (Am bq);replace bp:=G.eqv hW (bp.lI (by omega));replace ba:=G.eqv hW (ba.lI (by omega));clear hW;refine eN ?_;go_wp2;go_meet;exact⟨W2.1.size,W3.1.size,rfl,rfl,by omega,by omega,by omega,ba,bp,bq,J⟩
  ·refine nb λW3 bq I=>?_;have y3:=bq.lt;refine iX I ba K J ?_;clear I ba K J;intro z3 ba K J;refine aG [20] 2 ?_;go_wp2;refine fX ?_;refine nb λW4 bp I=>?_;have y4:=bp.lt;refine ja I ba bq K J ?_;clear I ba bq K J;intro z4 ba bq K J;refine oN 22 ?_;have OO:=eE bp bq;go_wp2;clear OO;refine⟨λ_=>Ext.xI K (by omega),?_⟩;refine cd λW5 hW=>?_;replace K:Ext W2 W5:=hW▸Ext.xI K (by omega);replace J:aY w W5:=hW▸Below.xI J (by omega);replace bp:G W5 (W3.1.size) #[x.node,x.state,x.steps,.slice xA0 x.aQ.length xc0,.slice xA1 x.bD.length xc1,.slice xA2 x.Z.length xc2] 112:=G.eqv hW (Am bp);replace bq:=G.eqv hW (bq.lI (by omega));replace ba:=G.eqv hW (ba.lI (by omega));clear hW;refine oN 23 ?_;have OO:=eE bp bq;go_wp2;clear OO;refine⟨λ_=>Ext.xI K (by omega),?_⟩;refine cd λW6 hW=>?_;replace K:Ext W2 W6:=hW▸Ext.xI K (by omega);replace J:aY w W6:=hW▸Below.xI J (by omega);replace bq:G W6 (W2.1.size) #[y.node,y.state,y.steps,.slice yA0 y.aQ.length yc0,.slice yA1 y.bD.length yc1,.slice yA2 y.Z.length yc2] 112:=G.eqv hW (Am bq);replace bp:=G.eqv hW (bp.lI (by omega));replace ba:=G.eqv hW (ba.lI (by omega));clear hW;refine eN ?_;go_wp2;go_meet;exact⟨W3.1.size,W2.1.size,rfl,rfl,by omega,by omega,by omega,ba,bp,bq,J⟩
 case rest=>
  obtain⟨gp,gq,rfl,rfl,hgp,hgq,hpq,ba2,bp,bq,ly⟩:=hcut;clear J ba;have J:=ly;clear ly;have zc:=J.size;have ba:=ba2;clear ba2;have OO:=iB ba bp bq;go_upto_region 2 with fail
  clear OO;refine rg 10320 λQn I K=>?_;refine ja I ba bp bq J ?_;clear I ba bp bq J;intro z11 ba bp bq J;have OO:=iB ba bp bq;refine aG [0,1,2,3] 12 ?_;go_wp2;clear OO;have OO:=iB ba bp bq;refine rJ [5,7,8,9,10,12] 6 ?_;go_wp2;refine iJ ?_;clear OO;refine oN 4 ?_;go_wp2_with fail;refine(mQ a.n x.node _ a.az _ (kX.zero hS.Z J) (by omega)).mono ?_;rintro e w12 ⟨⟨u,rfl,hu⟩,I⟩;refine lD I ba bp bq K J ?_;clear I ba bp bq K J;intro z12 ba bp bq K J;obtain⟨uA1,uk1,rfl,_⟩:=id hu;have HU1:=U hu;clear hu;have nJ:=bI w12.1.size w12;go_wp2;refine⟨λ_=>K,?_⟩;refine oN 6 ?_;go_wp2_with fail;refine(iG _ (i:Int) _ _ ((HU1.aE λb _ q=>nJ.block b q).aF (fH _) nJ.size)).mono ?_;rintro e w13 ⟨rfl,I⟩;refine xl I ba bp bq nJ K J ?_;clear I ba bp bq nJ K J;intro z13 ba bp bq nJ K J;rw[hF.xn,hF.io];go_wp2;refine⟨λ_=>K,?_⟩;refine oN 11 ?_;go_wp2_with fail;refine(mF a.n y.node _ a.az _ (kX.zero hS.Z J) (by omega)).mono ?_;rintro e w14 ⟨⟨u,rfl,hu⟩,I⟩;refine xl I ba bp bq nJ K J ?_;clear I ba bp bq nJ K J;intro z14 ba bp bq nJ K J;obtain⟨uA2,uk2,rfl,_⟩:=id hu;have HU2:=U hu;clear hu;have pT:=bI w14.1.size w14;go_wp2;refine⟨λ_=>K,?_⟩;refine oN 13 ?_;go_wp2_with fail;refine(iG _ (i:Int) _ _ ((HU2.aE λb _ q=>pT.block b q).aF (fH _) pT.size)).mono ?_;rintro e w15 ⟨rfl,I⟩;refine An I ba bp bq nJ pT K J ?_;clear I ba bp bq nJ pT K J;intro z15 ba bp bq nJ pT K J;rw[hF.yn,hF.ij];go_wp2;refine⟨λ_=>K,?_⟩;refine aG [14,15] 0 ?_;go_wp2;refine eJ ?_;have OO2:=iB ba bp bq;cases iU
  case false=>
   have OI:aK (av=some (sn,rw_)):=U (by rw[hR.Z];rfl);obtain⟨gs,os,eS,Fm,c0⟩:=AE.arr.qW Dc.Z;subst eS;obtain⟨gi,oi,rB,rc,eI,hgi,c1,CK⟩:=hy1.arr.row qC.Z;subst eI;replace c0:=(J.cell (hS gs Fm)).trans c0;replace c1:=(J.cell (hS gi hgi)).trans c1;have pg:gs<w15.1.size:=aU (hS gs Fm) J.size;have ph:gi<w15.1.size:=aU (hS gi hgi) J.size;replace CK:=U CK;go_upto_region 4 with fail
   clear OO2;have Qq:=bI w15.1.size w15;refine rg 1024 λRN I K=>?_;refine An I ba bp bq nJ pT Qq J ?_;clear I ba bp bq nJ pT Qq J;intro z16 ba bp bq nJ pT Qq J;replace c0:=(Qq.cell pg).trans c0;replace pg:=aU pg Qq.size;replace c1:=(Qq.cell ph).trans c1;replace ph:=aU ph Qq.size;have OO:=iB ba bp bq;refine aG [5,6,7,8,9] 8 ?_;go_wp2;clear OO;have OO:=iB ba bp bq;refine rJ [0,1,2,3,4] 3 ?_;go_wp2;refine iJ ?_;clear OO;refine oN 10 ?_;go_wp2_with fail;refine(Ko _ rw_ _ (((CK.aE (dx hS J))).og (j2 hS J.size)) (by have:=FP.1;omega)).mono ?_;rintro e w17 ⟨⟨u,rfl,hu⟩,I⟩;refine Xq I ba bp bq nJ pT Qq K J ?_;clear I ba bp bq nJ pT Qq K J;intro z17 ba bp bq nJ pT Qq K J;replace hu:=U hu;go_wp2;refine⟨λ_=>K,?_⟩;refine aG [11,12] 0 ?_;go_wp2;refine eJ ?_;go_wp2;clear Qq;go_ret2;exact⟨.inr ⟨_,_,_,OI.Z,rfl,hu.aF (by omega) bE⟩,J⟩
  go_upto_region 5 with fail
  clear OO2;obtain⟨gs,os,eS,Fm,c0⟩:=AE.arr.qW Dc.Z;subst eS;obtain⟨gi,oi,rB,rc,eI,hgi,c1,CK⟩:=hy1.arr.row qC.Z;subst eI;replace c0:=(J.cell (hS gs Fm)).trans c0;replace c1:=(J.cell (hS gi hgi)).trans c1;have pg:gs<w15.1.size:=aU (hS gs Fm) J.size;have ph:gi<w15.1.size:=aU (hS gi hgi) J.size;replace CK:=U CK;by_cases F:o<x.Z.length
  case neg=>
   have b1:¬((o:Int)<(x.Z.length:Int)):=by omega
   have HN:aK (av=none):=U (by rw[hR.Z,aO (by decide),aO (λh=>F h.1)]);have VU:=bI w15.1.size w15;refine rg 9663676416 λRN I K=>?_;refine An I ba bp bq nJ pT VU J ?_;clear I ba bp bq nJ pT VU J;intro z16 ba bp bq nJ pT VU J;replace c0:=(VU.cell pg).trans c0;replace pg:=aU pg VU.size;replace c1:=(VU.cell ph).trans c1;replace ph:=aU ph VU.size;have OO:=iB ba bp bq;refine aG [0,1,2,3,4,5,6,7,8,9,10,11,12,13,14,15,16,17,18,19,20,21,22,23,24,25,26,27,28,29] 4 ?_;go_wp2;clear OO;refine oJ 30 ?_;go_wp2;refine⟨λ_=>K,?_⟩;refine aG [31,32] 1 ?_;go_wp2;refine fX ?_;refine Ny 33 ?_;simp only[di,dX];go_wp2_with fail;refine(sZ _).mono ?_;rintro e w9 ⟨rfl,rfl⟩;go_wp2;exact⟨rfl,.inl ⟨HN.Z,rfl⟩,J⟩
  have b1:(o:Int)<(x.Z.length:Int):=by omega
  obtain⟨lg,XM⟩:=Pc.get_at F;have hld:x.Z.getD o []=lg:=by rw[dB,XM];rfl
  obtain⟨go_,oo,lB,lc,eO,Ub,c2,Y9⟩:=iF.arr.row XM;subst eO;replace c2:=(J.cell (hS go_ Ub)).trans c2;have vq:go_<w15.1.size:=aU (hS go_ Ub) J.size;have hl5:=hF.Z.Z lg (dV XM);have OP:aK (av=if (lg.length:Int)=sn/\Hu.mixed lg rw_=false then some (sn,Hu.rest lg rw_) else none):=U (by rw[hR.Z,aO (by decide),hld];simp only[F,true_and]);replace Y9:=U Y9;change aK _ at hld;replace XM:=U XM;by_cases R:(lg.length:Int)=sn
  case neg=>
   have b2:((lg.length:Int)==sn)=false:=by simpa using R
   have HN:aK (av=none):=U (by rw[OP.Z,aO (λh=>R h.1)]);have SK:=bI w15.1.size w15;refine rg 9663676416 λRN I K=>?_;refine An I ba bp bq nJ pT SK J ?_;clear I ba bp bq nJ pT SK J;intro z16 ba bp bq nJ pT SK J;replace c0:=(SK.cell pg).trans c0;replace pg:=aU pg SK.size;replace c1:=(SK.cell ph).trans c1;replace ph:=aU ph SK.size;replace c2:=(SK.cell vq).trans c2;replace vq:=aU vq SK.size;have OO:=iB ba bp bq;refine aG [0,1,2,3,4,5,6,7,8,9,10,11,12,13,14,15,16,17,18,19,20,21,22,23,24,25,26,27,28,29] 4 ?_;go_wp2;clear OO;refine oJ 30 ?_;go_wp2;refine⟨λ_=>K,?_⟩;refine aG [31,32] 1 ?_;go_wp2;refine fX ?_;refine Ny 33 ?_;simp only[di,dX];go_wp2_with fail;refine(sZ _).mono ?_;rintro e w9 ⟨rfl,rfl⟩;go_wp2;exact⟨rfl,.inl ⟨HN.Z,rfl⟩,J⟩
  have b2:((lg.length:Int)==sn)=true:=by simpa using R
  obtain⟨mx,Nr⟩:=cJ (Hu.mixed lg rw_);rw[Nr] at OP;change aK _ at Nr;cases mx
  case false=>
   have HN:aK (av=some (sn,Hu.rest lg rw_)):=U (by rw[OP.Z];exact aS ⟨R,rfl⟩);have Ju:=bI w15.1.size w15;refine rg 9663676416 λRN I K=>?_;refine An I ba bp bq nJ pT Ju J ?_;clear I ba bp bq nJ pT Ju J;intro z16 ba bp bq nJ pT Ju J;replace c0:=(Ju.cell pg).trans c0;replace pg:=aU pg Ju.size;replace c1:=(Ju.cell ph).trans c1;replace ph:=aU ph Ju.size;replace c2:=(Ju.cell vq).trans c2;replace vq:=aU vq Ju.size;have hY:=bI RN.1.size RN;have OO:=iB ba bp bq;refine aG [0,1,2,3,4,5,6,7,8,9,10,11,12,13,14,15,16,17,18,19,20,21,22,23,24,25,26,27,28,29] 4 ?_;go_wp2;clear OO;refine oJ 30 ?_;go_wp2_with fail;refine(DY _ _ lg rw_ _ (((Y9.aE (dx hS J))).og (j2 hS J.size)) (((CK.aE (dx hS J))).og (j2 hS J.size)) (by omega) (by have:=FP.1;omega) FP.2).mono ?_;rintro e w17 ⟨rfl,I⟩;refine TY I ba bp bq nJ pT Ju hY K J ?_;clear I ba bp bq nJ pT Ju hY K J;intro z17 ba bp bq nJ pT Ju hY K J;rw[Nr.Z];go_wp2;refine⟨λ_=>K,?_⟩;refine aG [31,32] 1 ?_;go_wp2;refine oJ 33 ?_;go_wp2_with fail;refine(BT _).mono ?_;rintro e w18 ⟨rfl,I⟩;refine TY I ba bp bq nJ pT Ju hY K J ?_;clear I ba bp bq nJ pT Ju hY K J;intro z18 ba bp bq nJ pT Ju hY K J;go_wp2;refine⟨λ_=>K,?_⟩;refine eN ?_;clear Ju;have OO:=iB ba bp bq;go_upto_region 6 with fail
   clear OO;replace c0:=(hY.cell pg).trans c0;replace pg:=aU pg hY.size;replace c1:=(hY.cell ph).trans c1;replace ph:=aU ph hY.size;replace c2:=(hY.cell vq).trans c2;replace vq:=aU vq hY.size;have NC:=bI w18.1.size w18;refine rg 32768 λW19 I K=>?_;refine Xq I ba bp bq nJ pT hY NC J ?_;clear I ba bp bq nJ pT hY NC J;intro z19 ba bp bq nJ pT hY NC J;replace c0:=(NC.cell pg).trans c0;replace pg:=aU pg NC.size;replace c1:=(NC.cell ph).trans c1;replace ph:=aU ph NC.size;replace c2:=(NC.cell vq).trans c2;replace vq:=aU vq NC.size;have OO:=iB ba bp bq;refine aG [5,6,7,8,9,10,11,12,13,14] 8 ?_;go_wp2;clear OO;have OO:=iB ba bp bq;refine rJ [0,1,2,3,4] 3 ?_;go_wp2;refine iJ ?_;clear OO;refine oN 15 ?_;go_wp2_with fail;refine(PS _ _ lg rw_ _ (((Y9.aE (dx hS J))).og (j2 hS J.size)) (((CK.aE (dx hS J))).og (j2 hS J.size)) (by omega) (by have:=FP.1;omega) FP.2).mono ?_;rintro e w20 ⟨⟨u,rfl,hu⟩,I⟩;refine TY I ba bp bq nJ pT hY NC K J ?_;clear I ba bp bq nJ pT hY NC K J;intro z20 ba bp bq nJ pT hY NC K J;replace hu:=U hu;go_wp2;refine⟨λ_=>K,?_⟩;refine aG [16,17] 0 ?_;go_wp2;refine eJ ?_;go_wp2;clear NC;go_ret2;exact⟨.inr ⟨_,_,_,HN.Z,rfl,hu.aF (by omega) bE⟩,J⟩
  have HN:aK (av=none):=U (by rw[OP.Z];exact aO (λh=>by cases h.2));have OQ:=bI w15.1.size w15;refine rg 9663676416 λRN I K=>?_;refine An I ba bp bq nJ pT OQ J ?_;clear I ba bp bq nJ pT OQ J;intro z16 ba bp bq nJ pT OQ J;replace c0:=(OQ.cell pg).trans c0;replace pg:=aU pg OQ.size;replace c1:=(OQ.cell ph).trans c1;replace ph:=aU ph OQ.size;replace c2:=(OQ.cell vq).trans c2;replace vq:=aU vq OQ.size;have OO:=iB ba bp bq;refine aG [0,1,2,3,4,5,6,7,8,9,10,11,12,13,14,15,16,17,18,19,20,21,22,23,24,25,26,27,28,29] 4 ?_;go_wp2;clear OO;refine oJ 30 ?_;go_wp2_with fail;refine(DY _ _ lg rw_ _ (((Y9.aE (dx hS J))).og (j2 hS J.size)) (((CK.aE (dx hS J))).og (j2 hS J.size)) (by omega) (by have:=FP.1;omega) FP.2).mono ?_;rintro e w17 ⟨rfl,I⟩;refine Xq I ba bp bq nJ pT OQ K J ?_;clear I ba bp bq nJ pT OQ K J;intro z17 ba bp bq nJ pT OQ K J;rw[Nr.Z];go_wp2;refine⟨λ_=>K,?_⟩;refine aG [31,32] 1 ?_;go_wp2;refine fX ?_;refine Ny 33 ?_;simp only[di,dX];go_wp2_with fail;refine(sZ _).mono ?_;rintro e w9 ⟨rfl,rfl⟩;go_wp2;exact⟨rfl,.inl ⟨HN.Z,rfl⟩,J⟩
end Go.Proofs.YtmgahjkopiaglaaGreat
