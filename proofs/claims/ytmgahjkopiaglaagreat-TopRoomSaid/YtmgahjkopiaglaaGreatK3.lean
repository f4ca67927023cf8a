/- Lemmas, walks and contracts by which the statement is proved. -/
import Derived.Test.YtmgahjkopiaglaaGreatK2
import Derived.RegionTactic
import Derived.OwnWalk
import Derived.Deep.RegionHeld3
import Derived.Deep.DeepCutAuto
import Derived.Laws.EntriesVeiled
import Derived.Deep.RegionLaw
import Derived.Deep.DrawnRows
import Derived.Deep.CutBlock
set_option maxRecDepth 100000
set_option maxHeartbeats 16000000
set_option linter.all false
namespace Go.Proofs.YtmgahjkopiaglaaGreat
open Go.RowKit Go.Proofs.Tryz
namespace Pc
theorem EY{p q:bG}(h:¬(p.node=q.node/\p.state=q.state/\p.steps=q.steps/\p.aQ=q.aQ/\p.bD=q.bD/\p.Z=q.Z)):decide (p=q)=false:=by
 apply bZ;rintro rfl;exact h ⟨rfl,rfl,rfl,rfl,rfl,rfl⟩
end Pc
theorem O'(v u:Value)(p q:Pc.bG)(w:World)(h:iq false w 0 w.1.size v p)(h':iq false w 0 w.1.size u q):Calls prog 184 #[v,u] w
 λx w'=>x=.returned (.bool (decide (p=q)))/\aY w w':=by
 obtain⟨n,s,t,xs,ms,os⟩:=p;obtain⟨n',s',t',xs',RY,os'⟩:=q;obtain⟨a,b,c,rfl,F,R,h3⟩:=h;obtain⟨a',b',c',rfl,xk,C4,xG⟩:=h';dsimp only at F R h3 xk C4 xG⊢;have hn:=@Pc.EY ⟨n,s,t,xs,ms,os⟩ ⟨n',s',t',xs',RY,os'⟩;dsimp only at hn;have hy:n=n'->s=s'->t=t'->xs=xs'->ms=RY->os=os'->decide ((⟨n,s,t,xs,ms,os⟩:Pc.bG)=⟨n',s',t',xs',RY,os'⟩)=true:=by rintro rfl rfl rfl rfl rfl rfl;exact cV rfl
 generalize decide ((⟨n,s,t,xs,ms,os⟩:Pc.bG)=⟨n',s',t',xs',RY,os'⟩)=d at hn hy⊢;replace hn:=U hn;change aK _ at hy;have iv:aY w ((w.alloc (.cells #[n,s,t,a,b,c] 112)).alloc (.cells #[n',s',t',a',b',c'] 112)):=below_2 _ _ _;by_cases e1:n=n'
 ·subst e1;have b1:(n==n)=true:=by simp
  by_cases e2:s=s'
  ·subst e2;have b2:(s==s)=true:=by simp
   by_cases e3:t=t'
   ·subst e3;have b3:(t==t)=true:=by simp
    replace F:=U F;replace R:=U R;replace h3:=U h3;replace xk:=U xk;replace C4:=U C4;replace xG:=U xG;go_in;go_wp2_with fail;refine(uN a a' xs xs' _ ((F.below iv bE).aF bE iv.size) ((xk.below iv bE).aF bE iv.size)).mono ?_;rintro e w1 ⟨rfl,hq⟩;replace iv:=iv.trans (hq.below (B:=w.1.size));have bb:=hq.below (B:=w.1.size+2);have kb:w1.cell? ⟨w.1.size,4,none⟩=some b:=(bb.cell (by simp)).trans (by simp[go_sem]);have kb':w1.cell? ⟨w.1.size+1,4,none⟩=some b':=(bb.cell (by simp)).trans (by simp[go_sem]);cases d1:decide (xs=xs')
    ·have D1:=U (m6 d1);clear d1;go_wp2;go_ret;exact⟨by rw[hn.Z (λh=>D1.Z h.2.2.2.1)];rfl,iv⟩
    ·have D1:=U (eM d1);clear d1;go_wp2_with fail;clear kb kb';refine(GK b b' ms RY _ ((R.below iv bE).aF bE iv.size) ((C4.below iv bE).aF bE iv.size)).mono ?_;rintro e w2 ⟨rfl,kr⟩;replace iv:=iv.trans (kr.below (B:=w.1.size));replace bb:=bb.trans (kr.below (B:=w.1.size+2));have kb:w2.cell? ⟨w.1.size,5,none⟩=some c:=(bb.cell (by simp)).trans (by simp[go_sem]);have kb':w2.cell? ⟨w.1.size+1,5,none⟩=some c':=(bb.cell (by simp)).trans (by simp[go_sem]);cases d2:decide (ms=RY)
     ·have D2:=U (m6 d2);clear d2;go_wp2;go_ret;exact⟨by rw[hn.Z (λh=>D2.Z h.2.2.2.2.1)];rfl,iv⟩
     ·have D2:=U (eM d2);clear d2;go_wp2_with fail;clear kb kb';refine(GL c c' os os' _ ((h3.below iv bE).aF bE iv.size) ((xG.below iv bE).aF bE iv.size)).mono ?_;rintro e w3 ⟨rfl,ue⟩;replace iv:=iv.trans (ue.below (B:=w.1.size));cases d3:decide (os=os')
      ·have D3:=U (m6 d3);clear d3;go_wp2;go_ret;exact⟨by rw[hn.Z (λh=>D3.Z h.2.2.2.2.2)];rfl,iv⟩
      ·have D3:=U (eM d3);clear d3;go_wp2;go_ret;exact⟨by rw[hy.Z (by simp) (by simp) (by simp) D1.Z D2.Z D3.Z];rfl,iv⟩
   ·have b3:(t==t')=false:=by simpa using e3
    replace e3:=U e3;clear F R h3 xk C4 xG;go_in;go_wp2;go_ret;exact⟨by rw[hn.Z (λh=>e3.Z h.2.2.1)];rfl,iv⟩
  ·have b2:(s==s')=false:=by simpa using e2
   replace e2:=U e2;clear F R h3 xk C4 xG;go_in;go_wp2;go_ret;exact⟨by rw[hn.Z (λh=>e2.Z h.2.1)];rfl,iv⟩
 ·have b1:(n==n')=false:=by simpa using e1
  replace e1:=U e1;clear F R h3 xk C4 xG;go_in;go_wp2;go_ret;exact⟨by rw[hn.Z (λh=>e1.Z h.1)];rfl,iv⟩
end Go.Proofs.YtmgahjkopiaglaaGreat
namespace Go.Proofs.YtmgahjkopiaglaaGreat
open Go.RowKit Go.Proofs.Tryz
theorem JE(n:Int)(w:World):Calls prog 188 #[n] w λx w'=>x=.returned (.bool (!Pc.within n 0 3))/\w=w':=by
 go_in;go_wp2_with fail;refine(so _ _ _).mono ?_;rintro e w1 ⟨rfl,rfl⟩;go_wp2;go_ret;exact⟨rfl,rfl⟩
def PrR(α:Type)(b:α->Bool)(xs:List α)(w:World)(k:Nat)(i:Value)(wr:World):Prop:=
 ∃j:Nat,i=.int .i64 (j:Int)/\j<=xs.length/\k=xs.length-j/\Pc.O1 b xs j/\aY w wr
theorem JF(v:Value)(p:Pc.bG)(w:World)(h:iq false w 0 w.1.size v p)(hh:Pc.sj p=false):Calls prog 144 #[v] w
 λx w'=>x=.returned (.bool (Pc.right p))/\aY w w':=by
 obtain⟨n,s,t,xs,ms,os⟩:=p;obtain⟨a,b,c,rfl,⟨A1,c1,rfl,l1,m1,F⟩,⟨A2,c2,rfl,l2,m2,R⟩,⟨A3,c3,rfl,l3,m3,h3⟩⟩:=h;dsimp only at l1 l2 l3 F R h3⊢;have e:Pc.right ⟨n,s,t,xs,ms,os⟩=false:=by unfold Pc.right;rw[hh];rfl
 rw[e];unfold Pc.sj at hh;have TW:=m6 hh;dsimp only at TW;clear hh e F R h3;by_cases q1:0<=n/\n<=5
 ·by_cases q2:0<=s/\s<=7
  ·by_cases q3:0<=t/\t<=2147483647
   ·have q4:5<max (max (xs.length:Int) ms.length) os.length:=by omega
    clear TW;go_in;go_wp2_with fail;refine(fV _ _ q1 _).mono ?_;rintro e w1 ⟨rfl,rfl⟩;go_wp2_with fail;refine(fV _ _ q2 _).mono ?_;rintro e w1 ⟨rfl,rfl⟩;go_wp2_with fail;refine(fV _ _ q3 _).mono ?_;rintro e w1 ⟨rfl,rfl⟩;go_wp2;go_ret;exact⟨rfl,cT.alloc bE _⟩
   ·clear TW;go_in;go_wp2_with fail;refine(fV _ _ q1 _).mono ?_;rintro e w1 ⟨rfl,rfl⟩;go_wp2_with fail;refine(fV _ _ q2 _).mono ?_;rintro e w1 ⟨rfl,rfl⟩;go_wp2_with fail;refine(n5 _ _ q3 _).mono ?_;rintro e w1 ⟨rfl,rfl⟩;go_wp2;go_ret;exact⟨rfl,cT.alloc bE _⟩
  ·clear TW;go_in;go_wp2_with fail;refine(fV _ _ q1 _).mono ?_;rintro e w1 ⟨rfl,rfl⟩;go_wp2_with fail;refine(n5 _ _ q2 _).mono ?_;rintro e w1 ⟨rfl,rfl⟩;go_wp2;go_ret;exact⟨rfl,cT.alloc bE _⟩
 ·clear TW;go_in;go_wp2_with fail;refine(n5 _ _ q1 _).mono ?_;rintro e w1 ⟨rfl,rfl⟩;go_wp2;go_ret;exact⟨rfl,cT.alloc bE _⟩
theorem JG(v:Value)(p:Pc.bG)(w:World)(h:iq false w 0 w.1.size v p)(hh:Pc.sj p=true):Calls prog 144 #[v] w
 λx w'=>x=.returned (.bool (Pc.right p))/\aY w w':=by
 obtain⟨n,s,t,xs,ms,os⟩:=p;obtain⟨a,b,c,rfl,⟨A1,c1,rfl,l1,m1,F⟩,⟨A2,c2,rfl,l2,m2,R⟩,⟨A3,c3,rfl,l3,m3,h3⟩⟩:=h;dsimp only at l1 l2 l3 F R h3⊢;have e:Pc.right ⟨n,s,t,xs,ms,os⟩=(xs.all (λn=>Pc.within n 0 500)&&(ms.all (Pc.rising 0)&&os.all Pc.wu)):=by unfold Pc.right;rw[hh];rfl
 unfold Pc.sj at hh;have TW:=eM hh;dsimp only at TW;clear hh;obtain⟨q1,q2,q3,q4,q5,q6⟩:=TW;have q7:¬5<max (max (xs.length:Int) ms.length) os.length:=by omega
 generalize hr:Pc.right ⟨n,s,t,xs,ms,os⟩=r at e⊢;have HE:=U e;clear e hr;have iv:aY w (w.alloc (.cells #[n,s,t,.slice A1 xs.length c1,.slice A2 ms.length c2,.slice A3 os.length c3] 112)):=cT.alloc bE _;unfold maxLen at m1 m2 m3;go_in;go_wp2_with fail;refine(fV _ _ q1 _).mono ?_;rintro e w1 ⟨rfl,rfl⟩;go_wp2_with fail;refine(fV _ _ q2 _).mono ?_;rintro e w1 ⟨rfl,rfl⟩;go_wp2_with fail;refine(fV _ _ q3 _).mono ?_;rintro e w1 ⟨rfl,rfl⟩;go_wp2;generalize hW:w.alloc (.cells #[n,s,t,.slice A1 xs.length c1,.slice A2 ms.length c2,.slice A3 os.length c3] 112)=W at iv;have fM:W.1.size=w.1.size+1:=by rw[<-hW];simp
 have k4:W.cell? ⟨w.1.size,4,none⟩=some (.slice A2 ms.length c2):=by rw[<-hW];simp[go_sem]
 have k5:W.cell? ⟨w.1.size,5,none⟩=some (.slice A3 os.length c3):=by rw[<-hW];simp[go_sem]
 clear hW;replace F:=F.below iv bE;replace R:=R.below iv bE;replace h3:=h3.below iv bE;change aK _ at fM;have HK4:=U k4;clear k4;have HK5:=U k5;clear k5;go_loopg [4,42] xs.length (λk _ i wr=>PrR Int (λn=>Pc.within n 0 500) xs W k i wr)
 case atStart=>exact⟨0,rfl,by omega,by omega,Pc.xB _ _,cT⟩
 case round=>
  obtain⟨j,rfl,hj,Q,hr,I⟩:=hrel;have HR:=U hr;clear hr;have HK:=U Q;clear Q;by_cases bY:j<xs.length
  ·obtain⟨x,D⟩:=Pc.get_at bY;obtain⟨g,o,rfl,_,hg,c0⟩:=(F.below I (by have:=fM.Z;omega)).int D;replace D:=U D;clear F R h3;by_cases q:0<=x/\x<=500
   ·go_wp2_with fail;refine(fV _ _ q _).mono ?_;rintro e w1 ⟨rfl,rfl⟩;go_wp2;go_roundg (xs.length-(j+1))
    case rel=>exact⟨j+1,by simp,by omega,rfl,Pc.xC HR.Z D.Z (Pc.qO q),I⟩
    case measure=>have:=HK.Z;omega
   ·go_wp2_with fail;refine(n5 _ _ q _).mono ?_;rintro e w1 ⟨rfl,rfl⟩;go_wp2;go_ret;exact⟨by rw[HE.Z,Pc.Ah (b:=λn=>Pc.within n 0 500) D.Z (Pc.nL q)];rfl,iv.trans (I.mono (by have:=fM.Z;omega))⟩
  ·have jx:j=xs.length:=by omega
   subst jx;have e1:=Pc.AS HR.Z;rw[e1,pP] at HE;clear HR e1 HK bY hj F;have k4:=(I.cell (p:=⟨w.1.size,4,none⟩) (by have:=fM.Z;simp;omega)).trans HK4.Z;go_wp2;clear k4;go_loopg [6,53] ms.length (λk _ i wr=>PrR (List (Int×Int)) (Pc.rising 0) ms W k i wr)
   case atStart=>exact⟨0,rfl,by omega,by omega,Pc.xB _ _,I⟩
   case round=>
    clear I;obtain⟨j,rfl,hj,Q,hr,I⟩:=hrel;have HR:=U hr;clear hr;have HK:=U Q;clear Q;by_cases bY:j<ms.length
    ·obtain⟨x,D⟩:=Pc.get_at bY;obtain⟨g,o,v,rfl,_,hg,c0,hv⟩:=(R.below I (by have:=fM.Z;omega)).row D;replace D:=U D;clear R h3;go_wp2_with fail;refine(JC v x _ (hv.aF bE (by have:=I.size;have:=fM.Z;omega))).mono ?_;rintro e w1 ⟨rfl,ee⟩;replace I:=I.trans (ee.mono I.size);cases hq:Pc.rising 0 x;all_goals
      change aK _ at hq;go_wp2_with fail
     ·go_ret;exact⟨by rw[HE.Z,Pc.Ah D.Z hq.Z];rfl,iv.trans (I.mono (by have:=fM.Z;omega))⟩
     ·go_roundg (ms.length-(j+1))
      case rel=>exact⟨j+1,by simp,by omega,rfl,Pc.xC HR.Z D.Z hq.Z,I⟩
      case measure=>have:=HK.Z;omega
    ·have jx:j=ms.length:=by omega
     subst jx;have e1:=Pc.AS HR.Z;rw[e1,pP] at HE;clear HR e1 HK bY hj R;have k5:=(I.cell (p:=⟨w.1.size,5,none⟩) (by have:=fM.Z;simp;omega)).trans HK5.Z;go_wp2;clear k5;go_loopg [9,64] os.length (λk _ i wr=>PrR (List Int) Pc.wu os W k i wr)
     case atStart=>exact⟨0,rfl,by omega,by omega,Pc.xB _ _,I⟩
     case round=>
      clear I;obtain⟨j,rfl,hj,Q,hr,I⟩:=hrel;replace hr:=U hr;replace Q:=U Q;by_cases bY:j<os.length
      ·obtain⟨x,D⟩:=Pc.get_at bY;obtain⟨g,o,v,rfl,_,hg,c0,hv⟩:=(h3.below I (by have:=fM.Z;omega)).row D;replace D:=U D;clear h3;have Rs:=hv.aF (ev 0) (show w.1.size<=wr.1.size by have:=I.size;have:=fM.Z;omega);obtain⟨Ax,cx,rfl,lx,mx,_⟩:=hv;replace Rs:=U Rs;unfold maxLen at mx;by_cases q:x.length<=500
       ·go_wp2_with fail;refine(pW 188 (λ_ _=>rfl) (λn=> !Pc.within n 0 3) JE _ x _ Rs.Z).mono ?_;rintro e w1 ⟨rfl,ee⟩;replace I:=I.trans (ee.mono I.size);rw[Pc.EX];cases hq:x.all (λn=>Pc.within n 0 3);all_goals
         change aK _ at hq;go_wp2_with fail
        ·go_ret;exact⟨by rw[HE.Z,Pc.Ah D.Z (by unfold Pc.wu;rw[hq.Z,Ag])];rfl,iv.trans (I.mono (by have:=fM.Z;omega))⟩
        ·go_roundg (os.length-(j+1))
         case rel=>exact⟨j+1,by simp,by omega,rfl,Pc.xC hr.Z D.Z (by unfold Pc.wu;rw[hq.Z,Bool.and_true];exact cV q),I⟩
         case measure=>have:=Q.Z;omega
       ·go_wp2;go_ret;exact⟨by rw[HE.Z,Pc.Ah D.Z (by unfold Pc.wu;rw[bZ q,pt])];rfl,iv.trans (I.mono (by have:=fM.Z;omega))⟩
      ·have jx:j=os.length:=by omega
       subst jx;have e1:=Pc.AS hr.Z;rw[e1] at HE;clear hr e1 Q bY hj h3;go_wp2;go_ret;exact⟨by rw[HE.Z];rfl,iv.trans (I.mono (by have:=fM.Z;omega))⟩
theorem Dz(v:Value)(p:Pc.bG)(w:World)(h:iq false w 0 w.1.size v p):Calls prog 144 #[v] w
 λx w'=>x=.returned (.bool (Pc.right p))/\aY w w':=by
 cases hh:Pc.sj p
 ·exact JF v p w h hh
 ·exact JG v p w h hh
end Go.Proofs.YtmgahjkopiaglaaGreat
namespace Go.Proofs.YtmgahjkopiaglaaGreat
open Go.RowKit Go.Proofs.Tryz
theorem JH(g o j:Nat):(⟨g,o,none⟩:Addr).add j=⟨g,o+j,none⟩:=by
 unfold Addr.add;split
 ·subst_vars;rfl
 ·rfl
theorem uO{P:Program}(w:World)(base:Nat)(t ty e:TypeId)(i:TypeInfo)(size:Nat)(ht:P.underlying t=some (.slice e))(hi:P.info? e=some i)
 (v:Value)(n:Nat)(xs:List Value)(cG:w.ownsRow base e size v n xs)(c:Nat):(Builtin.append_ #[t,t] ty #[v,.slice none 0 c]).run P w=.ok v w:=by
 rcases cG.2 with⟨rfl,rfl⟩|⟨g,cap,cur,rfl,_,_,hnc,_⟩
 ·simp[Builtin.append_,kM ht,sizeOf,typeInfo,hi,Builtin.lenOf,Builtin.firstCells]
 ·simp[Builtin.append_,kM ht,sizeOf,typeInfo,hi,Builtin.lenOf,Builtin.firstCells,hnc,storeCells]
def Src(w:World)(A:Option Addr)(m:Nat)(news:List Value):Prop:=0<m->∃g o,A=some ⟨g,o,none⟩/\∀j u,news[j]?=some u->w.cell? ⟨g,o+j,none⟩=some u
theorem Src.of{α:Type}{r:Y α}{fr:Bool}{w:World}{lo hi:Nat}{A:Option Addr}{xs:List α}(h:dM r fr w lo hi A xs):
 ∃news,news.length=xs.length * r.size/\r.all fr w (bO lo hi) news xs/\Src w A xs.length news:=by
 obtain⟨cells,F,R⟩:=h;refine⟨cells,Y.wy F,F,λhn=>?_⟩;obtain⟨g,o,rfl,_,h3⟩:=R hn;exact⟨g,o,rfl,λj u hj=>(h3 j u hj).1⟩
theorem Src.block{w:World}(cs:List Value)(e:TypeId)(m:Nat):Src (w.alloc (.cells cs.toArray e)) (some ⟨w.1.size,0,none⟩) m cs:=by
 intro _;refine⟨_,_,rfl,λj u hj=>?_⟩;rw[iR];rw[cell_of_row (w.alloc (.cells cs.toArray e)) w.1.size j cs.toArray e (0,0) (np w _)];simpa using hj
theorem AX{P:Program}(w:World)(base:Nat)(t ty e:TypeId){z:Value}{size bytes:Nat}(fU:(P.info? e).map (λi=>(i.zero,i.size,i.bytes))=some (some z,size,bytes))(ht:P.underlying t=some (.slice e))
 (nZ:z.cells.size=size)(fM:0<size)(v:Value)(n:Nat)(xs:List Value)(cG:w.ownsRow base e size v n xs)
 (A:Option Addr)(m c:Nat)(news:List Value)(hl:news.length=m * size)(hr:Src w A m news)(hA:A=none->m=0)(iu:m=0->A≠none->∃g o,A=some ⟨g,o,none⟩)(F:∀u∈news,u.oneCell'=true)
 (Aj:n+m<=maxLen)(jf:(n+m) * bytes<=140737488355328)(ko:base<=w.1.size):
 ∃v' w',(Builtin.append_ #[t,t] ty #[v,.slice A m c]).run P w=.ok v' w'/\w'.ownsRow base e size v' (n+m) (xs++news)/\w.grownBy w' v.ownBlock/\
  (v'.ownBlock=v.ownBlock\/v'.ownBlock=some w.1.size):=by
 obtain⟨i,hi,hz,hsize,E6⟩:=mC fU;rcases A with _|ad
 ·obtain rfl:=hA rfl;have hn:news=[]:=ib (by simpa using hl);subst hn;exact⟨v,w,uO w base t ty e i size ht hi v n xs cG c,by simpa using cG,ka w _,.inl rfl⟩
 ·have nq:∀j u,news[j]?=some u->w.cell? (ad.add j)=some u:=by
   intro j u hu;rcases m7 m with h0|h0
   ·subst h0;have hn:news=[]:=ib (by simpa using hl);subst hn;simp at hu
   ·obtain⟨g,o,h,hc⟩:=hr h0;injection h with h
    subst h;rw[JH];exact hc j u hu
  obtain⟨v',w',pa,R,h3,_,h5⟩:=run_append_own_at (P:=P) w base t ty e i z size bytes ht hi hz hsize E6 nZ fM v n xs cG ad m c news hl nq F Aj jf ko;exact⟨v',w',pa,R,h3,h5⟩
section
variable{P:Program}{w:World}{ops:Array Oper}{rest:List Oper}{o:Oper}{a:Act}{ao:Exit->Act->World->Prop}
theorem mE{aj:Act->World->Prop}(s x:Operand)(t:TypeId)(ho:o.op=.call {callee:=.builtin .append,args:=#[s,x],argTypes:=#[t,t]})
 (base:Nat)(e:TypeId){z:Value}{size bytes:Nat}(fU:(P.info? e).map (λi=>(i.zero,i.size,i.bytes))=some (some z,size,bytes))(ht:P.underlying t=some (.slice e))
 (nZ:z.cells.size=size)(fM:0<size)(v:Value)(n:Nat)(xs:List Value)(hs:a.eval s=v)(cG:w.ownsRow base e size v n xs)
 (A:Option Addr)(m c:Nat)(news:List Value)(D:a.eval x=.slice A m c)(hl:news.length=m * size)(hr:Src w A m news)(F:∀u∈news,u.oneCell'=true)
 (Aj:n+m<=maxLen)(jf:(n+m) * bytes<=140737488355328)(ko:base<=w.1.size)
 (h:∀v' w',w'.ownsRow base e size v' (n+m) (xs++news)->w.grownBy w' v.ownBlock->Below base w w'->(v'.ownBlock=v.ownBlock\/v'.ownBlock=some w.1.size)->aj (a.put o.dst v') w'):o.wp P a w aj ao:=by
 have hA:A=none->m=0:=by
  rintro rfl;rcases m7 m with h0|h0
  ·exact h0
  ·obtain⟨_,_,h,_⟩:=hr h0;cases h
 by_cases iu:∃ad,A=some ad/\m=0
 ·obtain⟨ad,rfl,rfl⟩:=iu;have hn:news=[]:=ib (by simpa using hl);subst hn;obtain⟨i,hi,hz,hsize,E6⟩:=mC fU;obtain⟨v',w',pa,R,h3,_,h5⟩:=run_append_own_at (P:=P) w base t o.type e i z size bytes ht hi hz hsize E6 nZ fM v n xs cG ad 0 c [] (by simp) (by simp) (by simp) Aj jf ko;unfold Oper.wp execOp;simp only[ho,resolve,invoke,builtin,iI,tI,qK,Ab,jR,pw,hs,D,pa];exact h v' w' R h3 (nY cG h3 ko) h5
 ·obtain⟨v',w',pa,R,h3,h4⟩:=AX (P:=P) w base t o.type e fU ht nZ fM v n xs cG A m c news hl hr hA (λh0 fz=>absurd ⟨A.get (Option.isSome_iff_ne_none.2 fz),by simp,h0⟩ iu) F Aj jf ko;unfold Oper.wp execOp;simp only[ho,resolve,invoke,builtin,iI,tI,qK,Ab,jR,pw,hs,D,pa];exact h v' w' R h3 (nY cG h3 ko) h4
theorem jT{α:Type}{r:Y α}{fr:Bool}{lo hi:Nat}{ys:List α}(o7:o.guard=none)(s x:Operand)(t:TypeId)(ho:o.op=.call {callee:=.builtin .append,args:=#[s,x],argTypes:=#[t,t]})
 (base:Nat)(e:TypeId){z:Value}{bytes:Nat}(fU:(P.info? e).map (λi=>(i.zero,i.size,i.bytes))=some (some z,r.size,bytes))(ht:P.underlying t=some (.slice e))
 (nZ:z.cells.size=r.size)(v:Value)(n:Nat)(xs:List Value)(hs:a.eval s=v)(cG:w.ownsRow base e r.size v n xs)
 (A:Option Addr)(c:Nat)(D:a.eval x=.slice A ys.length c)(hr:dM r fr w lo hi A ys)
 (Aj:n+ys.length<=maxLen)(jf:(n+ys.length) * bytes<=140737488355328)(ko:base<=w.1.size)
 (h:∀v' w' news,r.all fr w (bO lo hi) news ys->w'.ownsRow base e r.size v' (n+ys.length) (xs++news)->w.grownBy w' v.ownBlock->Below base w w'->(v'.ownBlock=v.ownBlock\/v'.ownBlock=some w.1.size)->wpList P ops ao rest (a.put o.dst v') w'):wpList P ops ao (o::rest) a w:=by
 obtain⟨news,F,R,h3⟩:=Src.of hr;exact px o7 λ_ hK=>mE s x t ho base e fU ht nZ r.pos v n xs hs cG A ys.length c news D F h3 (Y.Ak R) Aj jf ko λv' w' k1 k2 k3 k4=>hK _ _ (h v' w' news R k1 k2 k3 k4)
theorem lH{size:Nat}(o7:o.guard=none)(s x:Operand)(t:TypeId)(ho:o.op=.call {callee:=.builtin .append,args:=#[s,x],argTypes:=#[t,t]})
 (base:Nat)(e:TypeId){z:Value}{bytes:Nat}(fU:(P.info? e).map (λi=>(i.zero,i.size,i.bytes))=some (some z,size,bytes))(ht:P.underlying t=some (.slice e))
 (nZ:z.cells.size=size)(fM:0<size)(v:Value)(n:Nat)(xs:List Value)(hs:a.eval s=v)(cG:w.ownsRow base e size v n xs)
 (m c ar:Nat)(cs:List Value)(D:a.eval x=.slice ar m c)(hH:w.1.size=ar)(hl:cs.length=m * size)(F:∀u∈cs,u.oneCell'=true)
 (Aj:n+m<=maxLen)(jf:(n+m) * bytes<=140737488355328)(ko:base<=w.1.size)
 (h:∀v' w',w'.ownsRow base e size v' (n+m) (xs++cs)->w.grownBy w' v.ownBlock->Below base w w'->(v'.ownBlock=v.ownBlock\/v'.ownBlock=some (w.1.size+1))->wpList P ops ao rest (a.put o.dst v') w'):wpList P ops ao (o::rest) a (w.alloc (.cells cs.toArray e)):=by
 subst hH;have O3:(w.alloc (.cells cs.toArray e)).ownsRow base e size v n xs:=cG.alloc _;refine px o7 λ_ hK=>mE s x t ho base e fU ht nZ fM v n xs hs O3 _ m c cs D hl (Src.block cs e m) F Aj jf (by simp;omega) λv' w' k1 k2 k3 k4=>hK _ _ (h v' w' k1 ?_ ?_ (by simpa using k4))
 ·have h0:=World.grownBy_alloc w (.cells cs.toArray e) v.ownBlock;exact⟨k2.os.trans h0.os,k2.tape.trans h0.tape,k2.output.trans h0.output,bT h0.size k2.size,λk Q fz=>(k2.block k (by simp;omega) fz).trans (h0.block k Q fz)⟩
 ·exact(cT.alloc ko _).trans k3
end
def ints(l:List Int):List Value:=l.map (Value.int .i64)
@[simp] theorem fW(l:List Int):(ints l).length=l.length:=by simp[ints]
theorem sv(l k:List Int):ints (l++k)=ints l++ints k:=by simp[ints]
theorem Pa(l:List Int):∀u∈ints l,u.oneCell'=true:=by
 intro u hu;simp only[ints,pR] at hu;obtain⟨x,_,rfl⟩:=hu;rfl
theorem kt(fr:Bool)(w:World)(S:Nat->Prop):∀l:List Int,Y.int.all fr w S (ints l) l:=by
 intro l;induction l with
 |nil=>exact rfl
 |cons x t ih=>exact⟨[x],ints t,rfl,rfl,ih⟩
theorem wA{fr:Bool}{w:World}{S:Nat->Prop}:∀ {l:List Int} {cells:List Value},Y.int.all fr w S cells l->cells=ints l:=by
 intro l;induction l with
 |nil=>intro cells h;exact h
 |cons x t ih=>
  intro cells h;obtain⟨cs,rest,rfl,F,R⟩:=h;have xk:cs=[.int .i64 x]:=F;rw[xk,ih R];rfl
theorem tQ{w:World}(base:Nat)(e:TypeId){size:Nat}(n:Nat)(cs:List Value)(hl:cs.length=n * size)(I:base<=w.1.size)(hn:n<=maxLen):
 (w.alloc (.cells cs.toArray e)).ownsRow base e size (.slice w.1.size n n) n cs:=
 ⟨hl,.inr ⟨w.1.size,n,cs.toArray,rfl,I,np w _,bE,hn,by simpa using hl,by rw[<-hl];simp⟩⟩
section
variable{P:Program}{w:World}{ops:Array Oper}{rest:List Oper}{o:Oper}{a:Act}{ao:Exit->Act->World->Prop}
end
end Go.Proofs.YtmgahjkopiaglaaGreat
namespace Go.Proofs.YtmgahjkopiaglaaGreat
open Go.RowKit Go.Proofs.Tryz
theorem dS{w:World}{g:Nat}{cs:Array Value}{t:TypeId}(h:w.1[g]?=some (.cells cs t (0,0)))(i:Nat)(u:Value):(w.setCell ⟨g,i,none⟩ u).1[g]?=some (.cells (cs.setIfInBounds i u) t (0,0)):=by
 simp[World.setCell,zT,h]
theorem aD{w:World}{g:Nat}{cs:Array Value}{t:TypeId}(h:w.1[g]?=some (.cells cs t (0,0)))(i:Nat):w.cell? ⟨g,i,none⟩=cs[i]?:=cell_of_row w g i cs t (0,0) h
end Go.Proofs.YtmgahjkopiaglaaGreat
namespace Go.Proofs.YtmgahjkopiaglaaGreat
open Go.RowKit Go.Proofs.Tryz
section
variable{g gn gc lo gp av:Nat}{w0 w:World}{l:List Int}{cs:Array Value}
variable{a b c d e f:Value}
end
section
variable{w:World}{av:Nat}{T:TypeId}{a b c d e f:Value}
theorem MA(h:w.1[av]?=some (.cells #[a,b,c,d,e,f] T (0,0))):w.cell? ⟨av,0,none⟩=some a/\w.cell? ⟨av,1,none⟩=some b/\w.cell? ⟨av,2,none⟩=some c/\w.cell? ⟨av,3,none⟩=some d/\w.cell? ⟨av,4,none⟩=some e/\w.cell? ⟨av,5,none⟩=some f:=
 ⟨aD h 0,aD h 1,aD h 2,aD h 3,aD h 4,aD h 5⟩
theorem RZ(h:w.1[av]?=some (.cells #[a,b,c,d,e,f] T (0,0)))(a' b' c' d' e' f':Value):
 ((((((w.setCell ⟨av,0,none⟩ a').setCell ⟨av,1,none⟩ b').setCell ⟨av,2,none⟩ c').setCell ⟨av,3,none⟩ d').setCell ⟨av,4,none⟩ e').setCell ⟨av,5,none⟩ f').1[av]?=some (.cells #[a',b',c',d',e',f'] T (0,0)):=
 dS (dS (dS (dS (dS (dS h 0 a') 1 b') 2 c') 3 d') 4 e') 5 f'
end
section
variable{g gn gc lo av:Nat}{w0 w:World}{P:Option Nat}{l:List Int}
end
end Go.Proofs.YtmgahjkopiaglaaGreat
namespace Go.Proofs.YtmgahjkopiaglaaGreat
open Go.RowKit Go.Proofs.Tryz
def Acc{α:Type}(r:Y α)(e:TypeId)(B:Nat)(w:World)(v:Value)(xs:List α):Prop:=
 ∃cells S,w.ownsRow B e r.size v xs.length cells/\r.all true w S cells xs/\(∀b,S b->B<=b/\b<w.1.size)/\(∀b,v.ownBlock=some b->¬S b)
section
variable{α:Type}{r:Y α}{e:TypeId}{B:Nat}{w w1:World}{v:Value}{xs:List α}{x:α}{cs:List Value}
theorem Acc.nil(r:Y α)(e:TypeId)(B:Nat)(w:World):Acc r e B w (.slice none 0 0) []:=
 ⟨[],λ_=>False,pL _ _ _ _,rfl,λ_ h=>h.elim,λ_ h=>by simp[Value.ownBlock] at h⟩
theorem Acc.slice(h:Acc r e B w v xs):aM r true w B w.1.size v xs:=by
 obtain⟨cells,S,F,R,h3,h4⟩:=h;exact ay.ie (base:=B) (e:=e) F (Y.jw (λb I=>h3 b I) R) (λb I=>F.lt b I)
theorem mK{size n:Nat}{cells:List Value}(h:w.ownsRow B e size v n cells)(Q:∀b,B<=b->b<w.1.size->w1.1[b]?=w.1[b]?):w1.ownsRow B e size v n cells:=by
 refine⟨h.1,?_⟩;rcases h.2 with R|⟨g,cap,cur,hv,hg,hh,hr⟩
 ·exact .inl R
 ·have bY:g<w.1.size:=by
   rcases pQ g w.1.size with h'|h'
   ·exact h'
   ·simp[Array.getElem?_eq_none h'] at hh
  exact .inr ⟨g,cap,cur,hv,hg,(Q g hg bY).trans hh,hr⟩
theorem Acc.move(h:Acc r e B w v xs)(Q:∀b,B<=b->b<w.1.size->w1.1[b]?=w.1[b]?)(hs:w.1.size<=w1.1.size):Acc r e B w1 v xs:=by
 obtain⟨cells,S,F,R,h3,h4⟩:=h;exact⟨cells,S,mK F Q,Y.ej (λb I=>Q b (h3 b I).1 (h3 b I).2) R,λb I=>⟨(h3 b I).1,aU (h3 b I).2 hs⟩,h4⟩
theorem Acc.below(h:Acc r e B w v xs)(I:aY w w1):Acc r e B w1 v xs:=h.move (λb _ R=>I.block b R) I.size
theorem Acc.step(h:Acc r e B w v xs)(Q:∀b,B<=b->b<w.1.size->w1.1[b]?=w.1[b]?)(hs:w.1.size<=w1.1.size)(J:B<=w.1.size)(jr:r.is true w1 (bO w.1.size w1.1.size) cs x):
 ∃cells,w1.ownsRow B e r.size v xs.length cells/\(∀v' w2,w2.ownsRow B e r.size v' (xs.length+1) (cells++cs)->w1.grownBy w2 v.ownBlock->(v'.ownBlock=v.ownBlock\/∃n,v'.ownBlock=some n/\w1.1.size<=n)->Acc r e B w2 v' (xs++[x])):=by
 obtain⟨cells,S,F,R,h3,h4⟩:=h;have aca:=mK F Q;have acb:r.all true w1 S cells xs:=Y.ej (λb I=>Q b (h3 b I).1 (h3 b I).2) R;refine⟨cells,aca,λv' w2 ho hg ha=>?_⟩;have k1:∀b,(S b\/bO w.1.size w1.1.size b)->w2.1[b]?=w1.1[b]?:=by
  rintro b (I|I)
  ·exact hg.block b (aU (h3 b I).2 hs) (λhe=>h4 b he.symm I)
  ·refine hg.block b I.2 (λhe=>?_);have:=(F.lt b he.symm).2;have:=I.1;omega
 have lZ:r.all true w2 (λb=>S b\/bO w.1.size w1.1.size b) (cells++cs) (xs++[x]):=
  Y.sm (Y.ej k1 (Y.jw (λb I=> .inl I) acb)) (r.aE (r.aF jr (λb I=> .inr I)) k1)
 refine⟨cells++cs,_,by rw[dh];exact ho,lZ,?_,?_⟩
 ·rintro b (I|I)
  ·exact⟨(h3 b I).1,aU (h3 b I).2 (bT hs hg.size)⟩
  ·exact⟨by have:=I.1;omega,aU I.2 hg.size⟩
 ·intro b I hS;rcases ha with ha|⟨n,ha,hn⟩
  ·rw[ha] at I;rcases hS with hS|hS
   ·exact h4 b I hS
   ·have:=(F.lt b I).2;have:=hS.1;omega
  ·rw[ha] at I;injection I with I
   subst I;rcases hS with hS|hS
   ·have:=(h3 _ hS).2;omega
   ·have:=hS.2;omega
end
section
variable{P:Program}{w:World}{ops:Array Oper}{rest:List Oper}{o:Oper}{a:Act}{ao:Exit->Act->World->Prop}
theorem yi{α:Type}{r:Y α}{w0:World}{xs:List α}{y:α}(o7:o.guard=none)(s x:Operand)(t:TypeId)(ho:o.op=.call {callee:=.builtin .append,args:=#[s,x],argTypes:=#[t,t]})
 (B:Nat)(e:TypeId){z:Value}{bytes:Nat}(fU:(P.info? e).map (λi=>(i.zero,i.size,i.bytes))=some (some z,r.size,bytes))(ht:P.underlying t=some (.slice e))
 (nZ:z.cells.size=r.size)(E6:bytes<=1000)(v:Value)(hs:a.eval s=v)(AY:Acc r e B w0 v xs)(Q:∀b,B<=b->b<w0.1.size->w.1[b]?=w0.1[b]?)(fM:w0.1.size<=w.1.size)(J:B<=w0.1.size)
 (c ar:Nat)(cs:List Value)(D:a.eval x=.slice ar 1 c)(hH:w.1.size=ar)(jr:r.is true w (bO w0.1.size w.1.size) cs y)(hn:xs.length<=1000000)
 (h:∀v' w',Acc r e B w' v' (xs++[y])->w.grownBy w' v.ownBlock->Below B w w'->wpList P ops ao rest (a.put o.dst v') w'):wpList P ops ao (o::rest) a (w.alloc (.cells cs.toArray e)):=by
 obtain⟨cells,cG,DA⟩:=AY.step Q fM J jr;refine lH o7 s x t ho B e fU ht nZ r.pos v xs.length cells hs cG 1 c ar cs D hH (by rw[r.len jr];omega) (r.one jr) (by unfold maxLen;omega) (bT (pq (show xs.length+1<=1000001 by omega) E6) (by omega)) (by omega) ?_;intro v' w' F R h3 h4;refine h v' w' (DA v' w' F R ?_) R h3;rcases h4 with h4|h4
 ·exact .inl h4
 ·exact .inr ⟨_,h4,by omega⟩
end
end Go.Proofs.YtmgahjkopiaglaaGreat
namespace Go.Proofs.YtmgahjkopiaglaaGreat
open Go.RowKit Go.Proofs.Tryz
def Y.flat{α:Type}(r:Y α):Prop:=∀ {fr w S fr' w' S' cs a},r.is fr w S cs a->r.is fr' w' S' cs a
theorem Y.oa{α:Type}{r:Y α}(hf:r.flat){fr fr':Bool}{w w':World}{S S':Nat->Prop}:∀ {xs:List α} {cells:List Value},r.all fr w S cells xs->r.all fr' w' S' cells xs:=by
 intro xs;induction xs with
 |nil=>intro cells h;exact h
 |cons x xs ih=>
  intro cells h;obtain⟨cs,rest,rfl,h3,h4⟩:=h;exact⟨cs,rest,rfl,hf h3,ih h4⟩
namespace Pc
def sized(p:bG):Prop:=p.aQ.length<=1000000/\p.bD.length<=1000000/\p.Z.length<=1000000/\(∀x∈p.bD,x.length<=1000000)/\(∀x∈p.Z,x.length<=1000000)
end Pc
end Go.Proofs.YtmgahjkopiaglaaGreat
