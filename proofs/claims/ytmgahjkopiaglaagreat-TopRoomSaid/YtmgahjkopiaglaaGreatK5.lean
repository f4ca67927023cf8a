/- Lemmas, walks and contracts by which the statement is proved. -/
import Derived.Test.YtmgahjkopiaglaaGreatK4
import Derived.Lib.AppendZerosOnto
import Derived.Test.YtmgahjkopiaglaaGreatRows
import Derived.ProofKit
import Derived.OpenShut
import Derived.ShutString
import Derived.Carry
import Derived.Deep.Slices
import Derived.ChangeArms
set_option maxRecDepth 100000
set_option maxHeartbeats 16000000
set_option linter.all false
namespace Go.Proofs.YtmgahjkopiaglaaGreat
open Go.RowKit Go.Proofs.Tryz
theorem E9(v:Value)(p:Pc.bG)(w:World)(h:iq false w 0 w.1.size v p):Calls prog 143 #[v] w
 λx w'=>x=.returned (.bool (!Pc.right p))/\aY w w':=by
 obtain⟨b,I⟩:=cJ (Pc.right p);obtain⟨_,_,_,he,⟨A3,k3,rfl,_⟩,⟨A4,k4,rfl,_⟩,⟨A5,k5,rfl,_⟩⟩:=id h;subst he;have hr:=λW (hw:iq false W 0 W.1.size (.agg #[p.node,p.state,p.steps,.slice A3 p.aQ.length k3,.slice A4 p.bD.length k4,.slice A5 p.Z.length k5]) p)=>Dz _ p W hw;rw[I] at hr⊢;replace hr:=U hr;clear I;have J:aY w (w.alloc (.cells #[p.node,p.state,p.steps,.slice A3 p.aQ.length k3,.slice A4 p.bD.length k4,.slice A5 p.Z.length k5] 112)):=cT.alloc bE _;have h':=(h.below J bE).aF (ev 0) J.size;clear h;replace h':=U h';go_in;go_wp2_with fail;refine(hr _ h'.Z).mono ?_;rintro z w1 ⟨rfl,I⟩;go_wp2;go_ret;exact⟨rfl,J.trans (I.mono J.size)⟩
theorem yT(v:Value)(xs:List Pc.bG)(w:World)(h:aM Y.piece false w 0 w.1.size v xs):
 Calls prog 190 #[v,.func (.func 143) #[] #[]] w λx w'=>x=.returned (.int .i64 (Pc.idx (λp=> !Pc.right p) xs))/\aY w w':=by
 obtain⟨A,c,rfl,hl,hm,hA⟩:=h;unfold maxLen at hm;go_in;go_wp2;go_loopg [5,8] xs.length (λk _ i wr=>∃j:Nat,i=.int .i64 (j:Int)/\j<=xs.length/\k=xs.length-j/\Pc.clear (λp=> !Pc.right p) xs j/\aY w wr)
 case atStart=>exact⟨0,rfl,by omega,by omega,Pc.fI _ _,cT⟩
 case round=>
  obtain⟨j,rfl,hj,Q,hr,I⟩:=hrel;replace hr:=U hr;change aK _ at Q;by_cases bY:j<xs.length
  ·obtain⟨x,D⟩:=Pc.get_at bY;obtain⟨g,o,a3,a4,a5,rfl,_,hg,c0,c1,c2,c3,c4,c5,hp⟩:=(hA.below I bE).piece D;replace D:=U D;clear hA;have fM:=I.size;obtain⟨_,_,_,he,⟨A3,k3,rfl,_⟩,⟨A4,k4,rfl,_⟩,⟨A5,k5,rfl,_⟩⟩:=id hp;cases he;have E':=E9 _ x wr (hp.aF (ev 0) fM);obtain⟨b,ga⟩:=cJ (Pc.right x);rw[ga] at E';replace E':=U E';clear hp;go_wp2_with fail;refine E'.mono ?_;rintro e w1 ⟨rfl,ee⟩;replace I:=I.trans (ee.mono fM);clear ee fM c0 c1 c2 c3 c4 c5;cases b;all_goals
    change aK _ at ga;go_wp2_with fail
   ·go_ret;exact⟨by rw[Pc.iT hr.Z D.Z (by rw[ga.Z];rfl)];rfl,I⟩
   ·go_roundg (xs.length-(j+1))
    case rel=>exact⟨j+1,by simp,by omega,rfl,Pc.ew hr.Z D.Z (by rw[ga.Z];rfl),I⟩
    case measure=>have:=Q.Z;omega
  ·go_wp2;go_ret;have jx:j=xs.length:=by omega
   subst jx;exact⟨by rw[Pc.gd hr.Z];rfl,I⟩
theorem uS(v:Value)(xs:List Pc.bG)(w:World)(h:aM Y.piece false w 0 w.1.size v xs):
 Calls prog 145 #[v,.func (.func 143) #[] #[]] w λx w'=>x=.returned (.bool (xs.any λp=> !Pc.right p))/\aY w w':=by
 have hi:=yT v xs w h;have hg:=Pc.nX (λp=> !Pc.right p) xs;generalize Pc.idx (λp=> !Pc.right p) xs=i at hi hg;replace hi:=U hi;clear h;rw[<-hg.2];clear hg;go_in;go_wp2_with fail;refine hi.mono ?_;rintro e w1 ⟨rfl,I⟩;go_wp2;go_ret;exact⟨rfl,I⟩
theorem yj(k e s t i n c:Int)(A B:Option Addr)(a b x y:Nat)(w:World):Calls prog 140 #[.agg #[k,e,s,t,.slice A a x,i,n,c,.slice B b y]] w
 λz w'=>z=.returned (.bool (Pc.within e 1 200))/\aY w w':=by
 go_in;go_wp2_with fail;refine(kv rfl).mono ?_;rintro z w1 ⟨rfl,rfl⟩;go_wp2;go_ret;exact⟨rfl,cT.alloc bE _⟩
theorem R1(v:Value)(f:Fr)(w:World)(h:iO false w 0 w.1.size v f):Calls prog 141 #[v] w
 λz w'=>z=.returned (.bool (Fr.app f))/\aY w w':=by
 obtain⟨k,e,s,t,ps,i,n,c,p⟩:=f;obtain⟨A,B,x,y,rfl,_,_⟩:=h;dsimp only;unfold Fr.app;dsimp only;obtain⟨b1,ee⟩:=cJ (Pc.within e 0 200);obtain⟨b2,dO⟩:=cJ (Pc.within s 1 500);obtain⟨b3,fu⟩:=cJ (Pc.within t 0 3);rw[ee,dO,fu];change aK _ at ee dO fu;have J:aY w (w.alloc (.cells #[k,e,s,t,.slice A ps.length x,i,n,c,.slice B p.length y] 149)):=cT.alloc bE _;replace J:=U J;go_in;go_wp2_with fail;refine(kv ee.Z).mono ?_;rintro z w1 ⟨rfl,rfl⟩;cases b1
 ·go_wp2;go_ret;exact⟨rfl,J.Z⟩
 go_wp2_with fail;refine(kv dO.Z).mono ?_;rintro z w1 ⟨rfl,rfl⟩;cases b2
 ·go_wp2;go_ret;exact⟨rfl,J.Z⟩
 go_wp2_with fail;refine(kv fu.Z).mono ?_;rintro z w1 ⟨rfl,rfl⟩;go_wp2;go_ret;exact⟨rfl,J.Z⟩
theorem GV(v:Value)(f:Fr)(g:Nat)(w:World)(h:iO false w 0 w.1.size v f)(hg:G w g #[.func (.func 140) #[] #[]] 217):Calls prog 142 #[v,.pointer g] w
 λz w'=>z=.returned (.bool (Fr.report f))/\aY w w':=by
 obtain⟨k,e,s,t,ps,i,n,c,p⟩:=f;obtain⟨A,B,x,y,rfl,F,_⟩:=h;dsimp only at F⊢;unfold Fr.report Fr.control;dsimp only;obtain⟨_,_,he,rT,Xr,_⟩:=id F;cases he;unfold maxLen at Xr;obtain⟨b1,ee⟩:=cJ (Pc.within e 1 200);obtain⟨b2,dO⟩:=cJ (Pc.within (ps.length:Int) 1 6);obtain⟨b3,fu⟩:=cJ (ps.all Pc.right);have ha:ps.any (λp=> !Pc.right p)= !b3:=by rw[Pc.EX,fu]
 rw[ee,dO,fu];change aK _ at ee dO ha;clear fu;go_in;go_upto_region 1 with fail
 refine bK λW0 pU=>?_;have bx:=G.eqv pU (G.new _ _ _);have J:=Below.eqv pU (cT.alloc bE _);have Dx:=hg.next J;replace F:=(F.below J bE).aF (ev 0) J.size;clear pU hg;obtain⟨d0,d1,d2,d3,d4,d5,d6,d7,d8⟩:=bJ bx;have k0:W0.cell? ⟨g,0,none⟩=_:=aD Dx 0;simp only[dY,eR] at k0;go_wp2_with fail;clear d0 d1 d2 d3 d4 d5 d6 d7 d8 k0;refine(yj _ _ _ _ _ _ _ _ _ _ _ _ _ W0).mono ?_;rintro z w1 ⟨rfl,I⟩;rw[ee.Z];replace F:=(F.below I bE).aF (ev 0) I.size;refine lW I bx J ?_;clear I bx J;intro _ bx J;cases b1
 ·go_wp2;go_ret;exact⟨rfl,J⟩
 obtain⟨d0,d1,d2,d3,d4,d5,d6,d7,d8⟩:=bJ bx;go_wp2_with fail;refine(kv dO.Z).mono ?_;rintro z w2 ⟨rfl,rfl⟩;cases b2
 ·go_wp2;go_ret;exact⟨rfl,J⟩
 go_wp2_with fail;clear d0 d1 d2 d3 d4 d5 d6 d7 d8;refine(uS _ ps _ F).mono ?_;rintro z w2 ⟨rfl,I⟩;rw[ha.Z];go_wp2;go_ret;exact⟨by simp,J.trans (I.mono J.size)⟩
end Go.Proofs.YtmgahjkopiaglaaGreat
namespace Go.Proofs.YtmgahjkopiaglaaGreat
open Go.RowKit Go.Proofs.Tryz
theorem kU{w:World}{av:Nat}{x0 x1 x2 x3 x4 x5 x6:Value}{T:TypeId}(h:G w av #[x0,x1,x2,x3,x4,x5,x6] T):w.cell? ⟨av,0,none⟩=some x0/\w.cell? ⟨av,1,none⟩=some x1/\w.cell? ⟨av,2,none⟩=some x2/\w.cell? ⟨av,3,none⟩=some x3/\w.cell? ⟨av,4,none⟩=some x4/\w.cell? ⟨av,5,none⟩=some x5/\w.cell? ⟨av,6,none⟩=some x6:=
 ⟨aD h 0,aD h 1,aD h 2,aD h 3,aD h 4,aD h 5,aD h 6⟩
theorem Bi{n l h:Int}{b:Bool}{w:World}(I:Pc.within n l h=b):Calls prog 137 #[n,l,h] w λx w'=>x=.returned (.bool b)/\aY w w':=
 (kv I).mono λ_ _ h=>⟨h.1,h.2▸cT⟩
theorem TZ{v:Value}{f:Fr}{w:World}(h:iO false w 0 w.1.size v f):Calls prog 139 #[v] w
 λy w'=>(∃u,y=.returned u/\iO false w' 0 w'.1.size u (Fr.only f))/\aY w w':=Pg v f w h
theorem LL{v u:Value}{f g:Fr}{w:World}{b:Bool}(h:iO false w 0 w.1.size v f)(h':iO false w 0 w.1.size u g)(I:decide (f=g)=b):Calls prog 138 #[v,u] w
 λx w'=>x=.returned (.bool b)/\aY w w':=by subst I;exact JQ v u f g w h h'
theorem R2{v:Value}{f:Fr}{w:World}{b:Bool}(h:iO false w 0 w.1.size v f)(I:Fr.yh f=b):Calls prog 146 #[v] w λy w'=>y=.returned (.bool b)/\aY w w':=by subst I;exact JR v f w h
theorem acm{v:Value}{f:Fr}{w:World}{b:Bool}(h:iO false w 0 w.1.size v f)(I:Fr.app f=b):Calls prog 141 #[v] w λy w'=>y=.returned (.bool b)/\aY w w':=by subst I;exact R1 v f w h
theorem wH{v:Value}{f:Fr}{w:World}{b:Bool}(h:iO false w 0 w.1.size v f)(I:Fr.control f=b):Calls prog 140 #[v] w λy w'=>y=.returned (.bool b)/\aY w w':=by
 subst I;obtain⟨A,B,x,y,rfl,_,_⟩:=h;exact yj _ _ _ _ _ _ _ _ _ _ _ _ _ w
theorem R3{v:Value}{f:Fr}{w:World}{b:Bool}{g:Nat}(h:iO false w 0 w.1.size v f)(hg:G w g #[.func (.func 140) #[] #[]] 217)(I:Fr.report f=b):Calls prog 142 #[v,.pointer g] w
 λy w'=>y=.returned (.bool b)/\aY w w':=by subst I;exact GV v f g w h hg
theorem sI(v:Value)(f:Fr)(w:World)(h:iO false w 0 w.1.size v f):Calls prog 103 #[v] w
 λy w'=>y=.returned (.bool (Fr.right f))/\aY w w':=by
 obtain⟨k,e,s,t,ps,i,n,c,p⟩:=f;obtain⟨A,B,x,y,rfl,F,R⟩:=h;dsimp only at F R⊢;have hr:Fr.right ⟨k,e,s,t,ps,i,n,c,p⟩=(Pc.within k 0 6&&(decide (((⟨k,e,s,t,ps,i,n,c,p⟩:Fr))=Fr.only ⟨k,e,s,t,ps,i,n,c,p⟩)&&Fr.Jz ⟨k,e,s,t,ps,i,n,c,p⟩)):=rfl;generalize Fr.right ⟨k,e,s,t,ps,i,n,c,p⟩=r at hr⊢;obtain⟨b1,ee⟩:=cJ (Pc.within k 0 6);obtain⟨b2,dO⟩:=cJ (decide (((⟨k,e,s,t,ps,i,n,c,p⟩:Fr))=Fr.only ⟨k,e,s,t,ps,i,n,c,p⟩));rw[ee,dO] at hr;change aK _ at hr ee dO;go_in;go_upto_region 1 with fail
 refine bK λW0 pU=>?_;have bx:=G.eqv pU (G.new _ _ _);have J:=Below.eqv pU (cT.alloc bE _);have hf:iO false W0 0 W0.1.size (.agg #[k,e,s,t,.slice A ps.length x,i,n,c,.slice B p.length y]) ⟨k,e,s,t,ps,i,n,c,p⟩:=iO.of (f:=⟨k,e,s,t,ps,i,n,c,p⟩) ((F.below J bE).aF (ev 0) J.size) ((R.below J bE).aF (ev 0) J.size);clear pU F R;cases b1
 ·
  replace bx:=bx.next (cT.drew);replace hf:=hf.next (cT.drew);replace J:=J.drew;have K:=Ext.refl (W0.drew);refine eU 388 (by kernel_rfl) ?_;obtain⟨d0,d1,d2,d3,d4,d5,d6,d7,d8⟩:=bJ bx;refine aG [0,1] 9 ?_;go_wp2;clear d0 d1 d2 d3 d4 d5 d6 d7 d8;refine oJ 2 ?_;go_wp2_with fail;refine(Bi ee.Z).mono ?_;rintro e w1 ⟨rfl,I⟩;refine ja I bx hf K J ?_;clear I bx hf K J;intro _ bx hf K J;go_wp2;refine⟨λ_=>K,?_⟩;refine aG [3,4,6] 5 ?_;go_wp2;refine fX ?_;refine df K _ _ _ _ ?_;clear K;have K:=Ext.refl w1;refine rD [5] 4 ?_;go_wp2;refine iJ ?_;refine oN 7 ?_;go_wp2;refine⟨λ_=>K,?_⟩;refine oN 8 ?_;go_wp2;refine⟨λ_=>K,?_⟩;refine aG [9,10] 0 ?_;go_wp2;refine eJ ?_;go_wp2;go_ret;exact⟨by rw[hr.Z];rfl,J⟩
 cases b2
 ·
  replace bx:=bx.next (cT.drew);replace hf:=hf.next (cT.drew);replace J:=J.drew;have K:=Ext.refl (W0.drew);refine eU 388 (by kernel_rfl) ?_;obtain⟨d0,d1,d2,d3,d4,d5,d6,d7,d8⟩:=bJ bx;refine aG [0,1] 9 ?_;go_wp2;clear d0 d1 d2 d3 d4 d5 d6 d7 d8;refine oJ 2 ?_;go_wp2_with fail;refine(Bi ee.Z).mono ?_;rintro e w1 ⟨rfl,I⟩;refine ja I bx hf K J ?_;clear I bx hf K J;intro _ bx hf K J;go_wp2;refine⟨λ_=>K,?_⟩;obtain⟨d0,d1,d2,d3,d4,d5,d6,d7,d8⟩:=bJ bx;obtain⟨d0,d1,d2,d3,d4,d5,d6,d7,d8⟩:=bJ bx;refine aG [3,4,6] 5 ?_;go_wp2;refine fX ?_;clear d0 d1 d2 d3 d4 d5 d6 d7 d8;clear d0 d1 d2 d3 d4 d5 d6 d7 d8;obtain⟨d0,d1,d2,d3,d4,d5,d6,d7,d8⟩:=bJ bx;refine df K _ _ _ _ ?_;clear K;have K:=Ext.refl w1;refine rD [5] 4 ?_;go_wp2;refine iJ ?_;clear d0 d1 d2 d3 d4 d5 d6 d7 d8;refine oN 7 ?_;go_wp2_with fail;refine(TZ hf).mono ?_;rintro e w2 ⟨⟨u,rfl,hu⟩,I⟩;refine ja I bx hf K J ?_;clear I bx hf K J;intro _ bx hf K J;obtain⟨A2,B2,x2,y2,rfl,_,_⟩:=id hu;go_wp2;refine⟨λ_=>K,?_⟩;refine oN 8 ?_;go_wp2_with fail;refine(LL hf hu dO.Z).mono ?_;rintro e w3 ⟨rfl,I⟩;refine lD I bx hf hu K J ?_;clear I bx hf hu K J;intro _ bx hf hu K J;go_wp2;refine⟨λ_=>K,?_⟩;refine aG [9,10] 0 ?_;go_wp2;refine eJ ?_;go_wp2;go_ret;exact⟨by rw[hr.Z];rfl,J⟩
 replace bx:=bx.next (cT.drew);replace hf:=hf.next (cT.drew);replace J:=J.drew;have K:=Ext.refl (W0.drew);refine eU 388 (by kernel_rfl) ?_;obtain⟨d0,d1,d2,d3,d4,d5,d6,d7,d8⟩:=bJ bx;refine aG [0,1] 9 ?_;go_wp2;clear d0 d1 d2 d3 d4 d5 d6 d7 d8;refine oJ 2 ?_;go_wp2_with fail;refine(Bi ee.Z).mono ?_;rintro e w1 ⟨rfl,I⟩;refine ja I bx hf K J ?_;clear I bx hf K J;intro _ bx hf K J;go_wp2;refine⟨λ_=>K,?_⟩;obtain⟨d0,d1,d2,d3,d4,d5,d6,d7,d8⟩:=bJ bx;obtain⟨d0,d1,d2,d3,d4,d5,d6,d7,d8⟩:=bJ bx;refine aG [3,4,6] 5 ?_;go_wp2;refine fX ?_;clear d0 d1 d2 d3 d4 d5 d6 d7 d8;clear d0 d1 d2 d3 d4 d5 d6 d7 d8;obtain⟨d0,d1,d2,d3,d4,d5,d6,d7,d8⟩:=bJ bx;refine df K _ _ _ _ ?_;clear K;have K:=Ext.refl w1;refine rD [5] 4 ?_;go_wp2;refine iJ ?_;clear d0 d1 d2 d3 d4 d5 d6 d7 d8;refine oN 7 ?_;go_wp2_with fail;refine(TZ hf).mono ?_;rintro e w2 ⟨⟨u,rfl,hu⟩,I⟩;refine ja I bx hf K J ?_;clear I bx hf K J;intro _ bx hf K J;obtain⟨A2,B2,x2,y2,rfl,_,_⟩:=id hu;go_wp2;refine⟨λ_=>K,?_⟩;refine oN 8 ?_;go_wp2_with fail;refine(LL hf hu dO.Z).mono ?_;rintro e w3 ⟨rfl,I⟩;refine lD I bx hf hu K J ?_;clear I bx hf hu K J;intro _ bx hf hu K J;go_wp2;refine⟨λ_=>K,?_⟩;refine aG [9,10] 0 ?_;go_wp2;refine eJ ?_;clear hu;go_upto_region 5 with fail
 refine bK λW2 hW2=>?_;have bg:G W2 w3.1.size #[.func (.func 140) #[] #[]] 217:=hW2▸(G.kZ _ _ rfl).alloc _;have ba:G W2 (w3.1.size+1) #[.func (.func 141) #[] #[],.func (.func 140) #[] #[],.func (.func 140) #[] #[],.func (.func 140) #[] #[],.func (.func 140) #[] #[],.func (.func 142) #[] #[.pointer w3.1.size],.func (.func 146) #[] #[]] 259:=hW2▸G.kZ _ _ (by simp);have I:aY w3 W2:=hW2▸(cT.alloc bE _).alloc (by simp) _;replace bx:=bx.next I;replace hf:=hf.next I;replace J:=J.trans (I.mono J.size);clear I hW2;have Ph:0<=k/\k<=6:=eM ee.Z;have h7:k=0\/k=1\/k=2\/k=3\/k=4\/k=5\/k=6:=by omega
 clear Ph;rw[pP,pP] at hr;rcases h7 with rfl |rfl |rfl |rfl |rfl |rfl |rfl
 ·
  obtain⟨rb,hrb⟩:=cJ (Fr.app (⟨0,e,s,t,ps,i,n,c,p⟩:Fr));have yk:r=rb:=by rw[hr.Z,<-hrb];rfl
  change aK _ at hrb yk;clear hr ee dO;replace bx:=bx.next (cT.drew);replace hf:=hf.next (cT.drew);replace bg:=bg.next (cT.drew);replace ba:=ba.next (cT.drew);replace J:=J.drew;have K:=Ext.refl (W2.drew);refine eU 32 (by kernel_rfl) ?_;obtain⟨d0,d1,d2,d3,d4,d5,d6,d7,d8⟩:=bJ bx;obtain⟨g0,g1,g2,g3,g4,g5,g6⟩:=kU ba;refine aG [0,1,2,3,4] 2 ?_;go_wp2;clear d0 d1 d2 d3 d4 d5 d6 d7 d8;clear g0 g1 g2 g3 g4 g5 g6;refine oJ 5 ?_;go_wp2_with fail;refine(acm hf hrb.Z).mono ?_;rintro e w4 ⟨rfl,I⟩;refine xl I bx hf bg ba K J ?_;clear I bx hf bg ba K J;intro _ bx hf bg ba K J;go_wp2;refine⟨λ_=>K,?_⟩;refine aG [6] 0 ?_;go_wp2;refine eJ ?_;go_wp2;go_ret;exact⟨by rw[yk.Z];rfl,J⟩
 ·
  obtain⟨rb,hrb⟩:=cJ (Fr.control (⟨1,e,s,t,ps,i,n,c,p⟩:Fr));have yk:r=rb:=by rw[hr.Z,<-hrb];rfl
  change aK _ at hrb yk;clear hr ee dO;replace bx:=bx.next (cT.drew);replace hf:=hf.next (cT.drew);replace bg:=bg.next (cT.drew);replace ba:=ba.next (cT.drew);replace J:=J.drew;have K:=Ext.refl (W2.drew);refine eU 32 (by kernel_rfl) ?_;obtain⟨d0,d1,d2,d3,d4,d5,d6,d7,d8⟩:=bJ bx;obtain⟨g0,g1,g2,g3,g4,g5,g6⟩:=kU ba;refine aG [0,1,2,3,4] 2 ?_;go_wp2;clear d0 d1 d2 d3 d4 d5 d6 d7 d8;clear g0 g1 g2 g3 g4 g5 g6;refine oJ 5 ?_;go_wp2_with fail;refine(wH hf hrb.Z).mono ?_;rintro e w4 ⟨rfl,I⟩;refine xl I bx hf bg ba K J ?_;clear I bx hf bg ba K J;intro _ bx hf bg ba K J;go_wp2;refine⟨λ_=>K,?_⟩;refine aG [6] 0 ?_;go_wp2;refine eJ ?_;go_wp2;go_ret;exact⟨by rw[yk.Z];rfl,J⟩
 ·
  obtain⟨rb,hrb⟩:=cJ (Fr.control (⟨2,e,s,t,ps,i,n,c,p⟩:Fr));have yk:r=rb:=by rw[hr.Z,<-hrb];rfl
  change aK _ at hrb yk;clear hr ee dO;replace bx:=bx.next (cT.drew);replace hf:=hf.next (cT.drew);replace bg:=bg.next (cT.drew);replace ba:=ba.next (cT.drew);replace J:=J.drew;have K:=Ext.refl (W2.drew);refine eU 32 (by kernel_rfl) ?_;obtain⟨d0,d1,d2,d3,d4,d5,d6,d7,d8⟩:=bJ bx;obtain⟨g0,g1,g2,g3,g4,g5,g6⟩:=kU ba;refine aG [0,1,2,3,4] 2 ?_;go_wp2;clear d0 d1 d2 d3 d4 d5 d6 d7 d8;clear g0 g1 g2 g3 g4 g5 g6;refine oJ 5 ?_;go_wp2_with fail;refine(wH hf hrb.Z).mono ?_;rintro e w4 ⟨rfl,I⟩;refine xl I bx hf bg ba K J ?_;clear I bx hf bg ba K J;intro _ bx hf bg ba K J;go_wp2;refine⟨λ_=>K,?_⟩;refine aG [6] 0 ?_;go_wp2;refine eJ ?_;go_wp2;go_ret;exact⟨by rw[yk.Z];rfl,J⟩
 ·
  obtain⟨rb,hrb⟩:=cJ (Fr.control (⟨3,e,s,t,ps,i,n,c,p⟩:Fr));have yk:r=rb:=by rw[hr.Z,<-hrb];rfl
  change aK _ at hrb yk;clear hr ee dO;replace bx:=bx.next (cT.drew);replace hf:=hf.next (cT.drew);replace bg:=bg.next (cT.drew);replace ba:=ba.next (cT.drew);replace J:=J.drew;have K:=Ext.refl (W2.drew);refine eU 32 (by kernel_rfl) ?_;obtain⟨d0,d1,d2,d3,d4,d5,d6,d7,d8⟩:=bJ bx;obtain⟨g0,g1,g2,g3,g4,g5,g6⟩:=kU ba;refine aG [0,1,2,3,4] 2 ?_;go_wp2;clear d0 d1 d2 d3 d4 d5 d6 d7 d8;clear g0 g1 g2 g3 g4 g5 g6;refine oJ 5 ?_;go_wp2_with fail;refine(wH hf hrb.Z).mono ?_;rintro e w4 ⟨rfl,I⟩;refine xl I bx hf bg ba K J ?_;clear I bx hf bg ba K J;intro _ bx hf bg ba K J;go_wp2;refine⟨λ_=>K,?_⟩;refine aG [6] 0 ?_;go_wp2;refine eJ ?_;go_wp2;go_ret;exact⟨by rw[yk.Z];rfl,J⟩
 ·
  obtain⟨rb,hrb⟩:=cJ (Fr.control (⟨4,e,s,t,ps,i,n,c,p⟩:Fr));have yk:r=rb:=by rw[hr.Z,<-hrb];rfl
  change aK _ at hrb yk;clear hr ee dO;replace bx:=bx.next (cT.drew);replace hf:=hf.next (cT.drew);replace bg:=bg.next (cT.drew);replace ba:=ba.next (cT.drew);replace J:=J.drew;have K:=Ext.refl (W2.drew);refine eU 32 (by kernel_rfl) ?_;obtain⟨d0,d1,d2,d3,d4,d5,d6,d7,d8⟩:=bJ bx;obtain⟨g0,g1,g2,g3,g4,g5,g6⟩:=kU ba;refine aG [0,1,2,3,4] 2 ?_;go_wp2;clear d0 d1 d2 d3 d4 d5 d6 d7 d8;clear g0 g1 g2 g3 g4 g5 g6;refine oJ 5 ?_;go_wp2_with fail;refine(wH hf hrb.Z).mono ?_;rintro e w4 ⟨rfl,I⟩;refine xl I bx hf bg ba K J ?_;clear I bx hf bg ba K J;intro _ bx hf bg ba K J;go_wp2;refine⟨λ_=>K,?_⟩;refine aG [6] 0 ?_;go_wp2;refine eJ ?_;go_wp2;go_ret;exact⟨by rw[yk.Z];rfl,J⟩
 ·
  obtain⟨rb,hrb⟩:=cJ (Fr.report (⟨5,e,s,t,ps,i,n,c,p⟩:Fr));have yk:r=rb:=by rw[hr.Z,<-hrb];rfl
  change aK _ at hrb yk;clear hr ee dO;replace bx:=bx.next (cT.drew);replace hf:=hf.next (cT.drew);replace bg:=bg.next (cT.drew);replace ba:=ba.next (cT.drew);replace J:=J.drew;have K:=Ext.refl (W2.drew);refine eU 32 (by kernel_rfl) ?_;obtain⟨d0,d1,d2,d3,d4,d5,d6,d7,d8⟩:=bJ bx;obtain⟨g0,g1,g2,g3,g4,g5,g6⟩:=kU ba;refine aG [0,1,2,3,4] 2 ?_;go_wp2;clear d0 d1 d2 d3 d4 d5 d6 d7 d8;clear g0 g1 g2 g3 g4 g5 g6;refine oJ 5 ?_;go_wp2_with fail;refine(R3 hf bg hrb.Z).mono ?_;rintro e w4 ⟨rfl,I⟩;refine xl I bx hf bg ba K J ?_;clear I bx hf bg ba K J;intro _ bx hf bg ba K J;go_wp2;refine⟨λ_=>K,?_⟩;refine aG [6] 0 ?_;go_wp2;refine eJ ?_;go_wp2;go_ret;exact⟨by rw[yk.Z];rfl,J⟩
 ·
  obtain⟨rb,hrb⟩:=cJ (Fr.yh (⟨6,e,s,t,ps,i,n,c,p⟩:Fr));have yk:r=rb:=by rw[hr.Z,<-hrb];rfl
  change aK _ at hrb yk;clear hr ee dO;replace bx:=bx.next (cT.drew);replace hf:=hf.next (cT.drew);replace bg:=bg.next (cT.drew);replace ba:=ba.next (cT.drew);replace J:=J.drew;have K:=Ext.refl (W2.drew);refine eU 32 (by kernel_rfl) ?_;obtain⟨d0,d1,d2,d3,d4,d5,d6,d7,d8⟩:=bJ bx;obtain⟨g0,g1,g2,g3,g4,g5,g6⟩:=kU ba;refine aG [0,1,2,3,4] 2 ?_;go_wp2;clear d0 d1 d2 d3 d4 d5 d6 d7 d8;clear g0 g1 g2 g3 g4 g5 g6;refine oJ 5 ?_;go_wp2_with fail;refine(R2 hf hrb.Z).mono ?_;rintro e w4 ⟨rfl,I⟩;refine xl I bx hf bg ba K J ?_;clear I bx hf bg ba K J;intro _ bx hf bg ba K J;go_wp2;refine⟨λ_=>K,?_⟩;refine aG [6] 0 ?_;go_wp2;refine eJ ?_;go_wp2;go_ret;exact⟨by rw[yk.Z];rfl,J⟩
end Go.Proofs.YtmgahjkopiaglaaGreat
namespace Go.Proofs.YtmgahjkopiaglaaGreat
open Go.RowKit Go.Proofs.Tryz
namespace Fr
end Fr
theorem R4{P:Program}{ao:Exit->Act->World->Prop}{md:Region.Mode}{M:Nat}{wM:World}{ops:Array Oper}{fuel:Nat}{li:Array Bool}{a:Act}{w:World}(h:∀W,w=W->aV P md ops ao M wM fuel li a W):aV P md ops ao M wM fuel li a w:=h w rfl
end Go.Proofs.YtmgahjkopiaglaaGreat
namespace Go.Proofs.YtmgahjkopiaglaaGreat
open Go.RowKit Go.Proofs.Tryz
section
variable{w:World}{b:Nat}{T:TypeId}{x0 x1 x2 x3 x4 x5 x6 x7 x8 a0 a1 a2 a3 a4 a5 a6 a7 a8:Value}
def LM(w:World)(b:Nat)(a0 a1 a2 a3 a4 a5 a6 a7 a8:Value):World:=(((((((((w.setCell ⟨b,0,none⟩ a0).setCell ⟨b,1,none⟩ a1).setCell ⟨b,2,none⟩ a2).setCell ⟨b,3,none⟩ a3).setCell ⟨b,4,none⟩ a4).setCell ⟨b,5,none⟩ a5).setCell ⟨b,6,none⟩ a6).setCell ⟨b,7,none⟩ a7).setCell ⟨b,8,none⟩ a8)
theorem Pj(h:G w b #[x0,x1,x2,x3,x4,x5,x6,x7,x8] T):G (LM w b a0 a1 a2 a3 a4 a5 a6 a7 a8) b #[a0,a1,a2,a3,a4,a5,a6,a7,a8] T:=by
 have h0:G (w.setCell ⟨b,0,none⟩ a0) b #[a0,x1,x2,x3,x4,x5,x6,x7,x8] T:=dS h 0 a0;have F:G ((w.setCell ⟨b,0,none⟩ a0).setCell ⟨b,1,none⟩ a1) b #[a0,a1,x2,x3,x4,x5,x6,x7,x8] T:=dS h0 1 a1;have R:G (((w.setCell ⟨b,0,none⟩ a0).setCell ⟨b,1,none⟩ a1).setCell ⟨b,2,none⟩ a2) b #[a0,a1,a2,x3,x4,x5,x6,x7,x8] T:=dS F 2 a2;have h3:G ((((w.setCell ⟨b,0,none⟩ a0).setCell ⟨b,1,none⟩ a1).setCell ⟨b,2,none⟩ a2).setCell ⟨b,3,none⟩ a3) b #[a0,a1,a2,a3,x4,x5,x6,x7,x8] T:=dS R 3 a3;have h4:G (((((w.setCell ⟨b,0,none⟩ a0).setCell ⟨b,1,none⟩ a1).setCell ⟨b,2,none⟩ a2).setCell ⟨b,3,none⟩ a3).setCell ⟨b,4,none⟩ a4) b #[a0,a1,a2,a3,a4,x5,x6,x7,x8] T:=dS h3 4 a4;have h5:G ((((((w.setCell ⟨b,0,none⟩ a0).setCell ⟨b,1,none⟩ a1).setCell ⟨b,2,none⟩ a2).setCell ⟨b,3,none⟩ a3).setCell ⟨b,4,none⟩ a4).setCell ⟨b,5,none⟩ a5) b #[a0,a1,a2,a3,a4,a5,x6,x7,x8] T:=dS h4 5 a5;have h6:G (((((((w.setCell ⟨b,0,none⟩ a0).setCell ⟨b,1,none⟩ a1).setCell ⟨b,2,none⟩ a2).setCell ⟨b,3,none⟩ a3).setCell ⟨b,4,none⟩ a4).setCell ⟨b,5,none⟩ a5).setCell ⟨b,6,none⟩ a6) b #[a0,a1,a2,a3,a4,a5,a6,x7,x8] T:=dS h5 6 a6;have h7:G ((((((((w.setCell ⟨b,0,none⟩ a0).setCell ⟨b,1,none⟩ a1).setCell ⟨b,2,none⟩ a2).setCell ⟨b,3,none⟩ a3).setCell ⟨b,4,none⟩ a4).setCell ⟨b,5,none⟩ a5).setCell ⟨b,6,none⟩ a6).setCell ⟨b,7,none⟩ a7) b #[a0,a1,a2,a3,a4,a5,a6,a7,x8] T:=dS h6 7 a7;exact dS h7 8 a8
theorem Pk{k:Nat}(Q:k≠b):(LM w b a0 a1 a2 a3 a4 a5 a6 a7 a8).1[k]?=w.1[k]?:=by
 have o:∀(w0:World)(i:Nat)(u:Value),(w0.setCell ⟨b,i,none⟩ u).1[k]?=w0.1[k]?:=λw0 i u=>dF _ _ _ _ Q;unfold LM;rw[o,o,o,o,o,o,o,o,o]
theorem qQ{B:Nat}{w0:World}(h:Below B w0 w)(J:B<=b):Below B w0 (LM w b a0 a1 a2 a3 a4 a5 a6 a7 a8):=((((((((h.setCell J _).setCell J _).setCell J _).setCell J _).setCell J _).setCell J _).setCell J _).setCell J _).setCell J _
end
end Go.Proofs.YtmgahjkopiaglaaGreat
namespace Go.Proofs.YtmgahjkopiaglaaGreat
open Go.RowKit Go.Proofs.Tryz
def Row{α:Type}(r:Y α)(e:TypeId)(B:Nat)(w:World)(b:Option Nat)(v:Value)(xs:List α):Prop:=
 ∃cells,w.ownsRow B e r.size v xs.length cells/\r.all true w (λ_=>False) cells xs/\v.ownBlock=b
def sK(b c:Option Nat):Prop:=∀k,b=some k->c=some k->False
theorem sK.symm{b c:Option Nat}(h:sK b c):sK c b:=λk F R=>h k R F
section
variable{α β:Type}{r:Y α}{r2:Y β}{e e2:TypeId}{B B2:Nat}{w w':World}{v u:Value}{xs:List α}{ys:List β}{b c b':Option Nat}
theorem Row.lt(h:Row r e B w b v xs){k:Nat}(Q:b=some k):B<=k/\k<w.1.size:=by
 obtain⟨cells,F,_,h3⟩:=h;exact F.lt k (h3.trans Q)
theorem Row.base{B':Nat}(h:Row r e B w b v xs)(J:B'<=B):Row r e B' w b v xs:=by
 obtain⟨cells,F,R,h3⟩:=h;exact⟨cells,wv F J,R,h3⟩
theorem Row.aE(h:Row r e B w b v xs)(Q:∀k,b=some k->w'.1[k]?=w.1[k]?):Row r e B w' b v xs:=by
 obtain⟨cells,F,R,h3⟩:=h;refine⟨cells,⟨F.1,?_⟩,Y.ej (λ_ h=>h.elim) R,h3⟩;rcases F.2 with h4|⟨g,cap,cur,hv,hg,hh,hr⟩
 ·exact .inl h4
 ·have:b=some g:=by rw[<-h3,hv];rfl
  exact .inr ⟨g,cap,cur,hv,hg,(Q g this).trans hh,hr⟩
theorem Row.next(h:Row r e B w b v xs)(I:aY w w'):Row r e B w' b v xs:=h.aE λk Q=>I.block k (h.lt Q).2
instance:Nx w w' (Row r e B w b v xs) (Row r e B w' b v xs):=⟨λq p=>p.next q⟩
theorem Row.slice(h:Row r e B w b v xs):aM r true w B w.1.size v xs:=by
 obtain⟨cells,F,R,h3⟩:=h;exact ay.ie (base:=B) (e:=e) F (Y.jw (λ_ h=>h.elim) R) (λk Q=>F.lt k Q)
theorem Row.form(h:Row r e B w b v xs):∃A cap,v=.slice A xs.length cap/\xs.length<=cap/\cap<=maxLen:=by
 obtain⟨A,c,rfl,F,R,_⟩:=h.slice;exact⟨A,c,rfl,F,R⟩
end
section
variable{P:Program}{w:World}{ops:Array Oper}{rest:List Oper}{o:Oper}{a:Act}{ao:Exit->Act->World->Prop}
theorem gV{α:Type}{r:Y α}(hf:r.flat){xs:List α}{y:α}(o7:o.guard=none)(s x:Operand)(t:TypeId)(ho:o.op=.call {callee:=.builtin .append,args:=#[s,x],argTypes:=#[t,t]})
 (B:Nat)(e:TypeId){z:Value}{bytes:Nat}(fU:(P.info? e).map (λi=>(i.zero,i.size,i.bytes))=some (some z,r.size,bytes))(ht:P.underlying t=some (.slice e))
 (nZ:z.cells.size=r.size)(E6:bytes<=1000)(v:Value){b:Option Nat}(hs:a.eval s=v)(ct:Row r e B w b v xs)(J:B<=w.1.size)
 (c ar:Nat)(cs:List Value)(D:a.eval x=.slice ar 1 c)(hH:w.1.size=ar)(jr:r.is true w (λ_=>False) cs y)(hn:xs.length<=1000000)
 (h:∀v' w' b',Row r e B w' b' v' (xs++[y])->w.grownBy w' b->Below B w w'->(b'=b\/∃k,b'=some k/\w.1.size<=k)->wpList P ops ao rest (a.put o.dst v') w'):wpList P ops ao (o::rest) a (w.alloc (.cells cs.toArray e)):=by
 obtain⟨cells,F,R,rfl⟩:=ct;refine lH o7 s x t ho B e fU ht nZ r.pos v xs.length cells hs F 1 c ar cs D hH (by rw[r.len jr];omega) (r.one jr) (by unfold maxLen;omega) (bT (pq (show xs.length+1<=1000001 by omega) E6) (by omega)) J ?_;intro v' w' k1 k2 k3 k4;refine h v' w' _ ⟨cells++cs,by rw[dh];exact k1,Y.sm (Y.oa hf R) (hf jr),rfl⟩ k2 k3 ?_;rcases k4 with k4|k4
 ·exact .inl k4
 ·exact .inr ⟨_,k4,by omega⟩
theorem GW{α:Type}{r:Y α}(hf:r.flat){xs ys:List α}{fr:Bool}{lo hi:Nat}(o7:o.guard=none)(s x:Operand)(t:TypeId)(ho:o.op=.call {callee:=.builtin .append,args:=#[s,x],argTypes:=#[t,t]})
 (B:Nat)(e:TypeId){z:Value}{bytes:Nat}(fU:(P.info? e).map (λi=>(i.zero,i.size,i.bytes))=some (some z,r.size,bytes))(ht:P.underlying t=some (.slice e))
 (nZ:z.cells.size=r.size)(E6:bytes<=1000)(v u:Value){b:Option Nat}(hs:a.eval s=v)(ct:Row r e B w b v xs)(J:B<=w.1.size)
 (D:a.eval x=u)(hu:aM r fr w lo hi u ys)(hn:xs.length+ys.length<=1000000)
 (h:∀v' w' b',Row r e B w' b' v' (xs++ys)->w.grownBy w' b->Below B w w'->(b'=b\/∃k,b'=some k/\w.1.size<=k)->wpList P ops ao rest (a.put o.dst v') w'):wpList P ops ao (o::rest) a w:=by
 obtain⟨cells,F,R,rfl⟩:=ct;obtain⟨A,c,rfl,_,_,hA⟩:=hu;refine jT o7 s x t ho B e fU ht nZ v xs.length cells hs F A c D hA (by unfold maxLen;omega) (bT (pq (show xs.length+ys.length<=1000001 by omega) E6) (by omega)) J ?_;intro v' w' news k0 k1 k2 k3 k4;refine h v' w' _ ⟨cells++news,by rw[dh];exact k1,Y.all_append (Y.oa hf R) (Y.oa hf k0),rfl⟩ k2 k3 ?_;rcases k4 with k4|k4
 ·exact .inl k4
 ·exact .inr ⟨_,k4,by omega⟩
end
end Go.Proofs.YtmgahjkopiaglaaGreat
namespace Go.Proofs.YtmgahjkopiaglaaGreat
open Go.RowKit Go.Proofs.Tryz
end Go.Proofs.YtmgahjkopiaglaaGreat
namespace Go.Proofs.YtmgahjkopiaglaaGreat
open Go.RowKit Go.Proofs.Tryz
theorem rU{P:Program}(w:World)(t tn ty e:TypeId)(i:TypeInfo)(z:Value)(kq kn:IntKind)(ht:P.underlying t=some (.slice e))(kH:P.underlying tn=some (.int kn))(hi:P.info? e=some i)(hz:i.zero=some z)(nZ:z.cells.size=i.size)(hs:0<i.size)
 (g nr wI:Nat)(cur:Array Value)(hg:w.1[g]?=some (.cells cur e (0,0)))(k:Nat)(h0:0<k)(F:∀u∈(Builtin.zeroCells z.cells k).toList,u.oneCell'=true)
 (rG:nr+k<=wI)(rV:nr * i.size+k * i.size<=cur.size)(Aj:(k:Int)<=9223372036854775807)(h48:k * i.bytes<=281474976710656):
 (Builtin.append_ #[t,tn] ty #[.slice g nr wI,.int kq k]).run P w=
  .ok (.slice g (nr+k) wI) (w.setRow g (cur.toList.take (nr * i.size)++(Builtin.zeroCells z.cells k).toList++cur.toList.drop (nr * i.size+k * i.size)).toArray):=by
 have hl:(Builtin.zeroCells z.cells k).toList.length=k * i.size:=by rw[eK,size_zeroCells,nZ]
 have gw:=run_storeCells_at P g (nr * i.size) e (Builtin.zeroCells z.cells k).toList 0 cur w hg (by rw[hl];simpa using rV) F;rw[hl] at gw;simp only[iS] at gw;have Q:k≠0:=by omega
 have hw:IntKind.i64.wrap (k:Int)=k:=by rw[IntKind.wrap_i64];omega
 have acn:¬(281474976710656<(k:Int) * (i.bytes:Int)):=by
  rw[<-Int.natCast_mul];omega
 have JS:¬((k:Int)<0):=by omega
 have Rv:¬(k * i.size=0):=Nat.mul_ne_zero Q (by omega);simp[Builtin.append_,kM ht,kM kH,sizeOf,typeInfo,zeroValue,hi,hz,asInt,asIntOf,hw,rG,JS,Rv,acn,Addr.add_lit,gw]
theorem mM{P:Program}(w:World)(base:Nat)(t tn ty e:TypeId){z:Value}{size bytes:Nat}(kq kn:IntKind)(fU:(P.info? e).map (λi=>(i.zero,i.size,i.bytes))=some (some z,size,bytes))(ht:P.underlying t=some (.slice e))(kH:P.underlying tn=some (.int kn))
 (nZ:z.cells.size=size)(fM:0<size)(v:Value)(n:Nat)(xs:List Value)(cG:w.ownsRow base e size v n xs)(k:Nat)(h0:0<k)(news:List Value)(lZ:(Builtin.zeroCells z.cells k).toList=news)(F:∀u∈news,u.oneCell'=true)
 (Aj:n+k<=maxLen)(jf:(n+k) * bytes<=140737488355328)(ko:base<=w.1.size):
 ∃v' w',(Builtin.append_ #[t,tn] ty #[v,.int kq k]).run P w=.ok v' w'/\w'.ownsRow base e size v' (n+k) (xs++news)/\w.grownBy w' v.ownBlock/\
  (v'.ownBlock=v.ownBlock\/v'.ownBlock=some w.1.size):=by
 obtain⟨i,hi,hz,rfl,rfl⟩:=mC fU;subst lZ;have Vd:n+k<=9223372036854775807:=by simp only[maxLen] at Aj;omega
 have hl:(Builtin.zeroCells z.cells k).toList.length=k * i.size:=by rw[eK,size_zeroCells,nZ]
 have hlen:(xs++(Builtin.zeroCells z.cells k).toList).length=(n+k) * i.size:=by rw[dh,cG.1,hl,Nat.add_mul]
 have hkb:k * i.bytes<=(n+k) * i.bytes:=vX _ (by omega);have grown:∀(qd:Nat),qd<n+k->∀(row:Option Nat),
  (w.drew.alloc (.cells (xs.toArray++Builtin.zeroCells z.cells k++Builtin.zeroCells z.cells (grownCap w (n+k) qd e-(n+k))) e)).ownsRow base e i.size
   (.slice w.1.size (n+k) (grownCap w (n+k) qd e)) (n+k) (xs++(Builtin.zeroCells z.cells k).toList)/\
  w.grownBy (w.drew.alloc (.cells (xs.toArray++Builtin.zeroCells z.cells k++Builtin.zeroCells z.cells (grownCap w (n+k) qd e-(n+k))) e)) row:=by
  intro qd ho row;have Mv:=grownCap_ge w (n+k) qd e;have CJ:grownCap w (n+k) qd e<=maxLen:=grownCap_le_maxLen w (n+k) qd e Aj;refine⟨⟨hlen,.inr ⟨w.1.size,_,_,rfl,ko,np w.drew _,Mv,CJ,?_,?_⟩⟩,⟨rfl,rfl,rfl,by simp,λq hq _=>nm w.drew _ hq⟩⟩
  ·simp only[Array.size_append,jN,size_zeroCells,nZ,cG.1,<-Nat.add_mul];congr 1;omega
  ·simp only[Array.toList_append,qH];rw[<-qH,<-hlen];exact List.take_left
 rcases cG.2 with⟨rfl,rfl⟩|⟨g,cap,cur,rfl,hbg,hg,hnc,CJ,jr,htake⟩
 ·have D:xs=[]:=ib (by simpa using cG.1);subst D;have hr:=Lib.run_append_nil_zeros (P:=P) w t tn ty e i z kq kn ht kH hi hz k h0 fM (by omega) (by omega);have DB:=grown 0 (by omega) (Value.ownBlock (.slice none 0 0));simp only[iR,gh,Array.empty_append] at DB⊢;exact⟨_,_,hr,DB.1,DB.2,.inr rfl⟩
 ·by_cases rG:n+k<=cap
  ·have rV:n * i.size+k * i.size<=cur.size:=by rw[jr,<-Nat.add_mul];exact vX _ rG
   have hr:=rU (P:=P) w t tn ty e i z kq kn ht kH hi hz nZ fM g n cap cur hg k h0 F rG rV (by omega) (by omega);refine⟨_,_,hr,⟨hlen,.inr ⟨g,cap,_,rfl,hbg,setRow_heap w g cur _ e _ hg,rG,CJ,?_,?_⟩⟩,⟨rfl,rfl,rfl,by simp,λk _ Q=>setRow_other w g k _ (λe=>Q (by simp[Value.ownBlock,e]))⟩,.inl rfl⟩
   ·simp only[jN,dh,dL,iQ,eK,size_zeroCells,nZ];omega
   ·rw[htake,<-hlen];exact List.take_left
  ·have holds:∀j u,xs[j]?=some u->w.cell? ((⟨g,0,none⟩:Addr).add j)=some u:=cG.cells (g:=g) rfl;have hold:=run_firstCells_some (P:=P) w.drew i.size n ⟨g,0,none⟩ n cap xs cG.1 (by simpa using holds);have hr:=Lib.run_append_grow_zeros (P:=P) w t tn ty e i z kq kn ht kH hi hz (some ⟨g,0,none⟩) n cap xs hold k h0 fM (by omega) (by omega) (by omega) (growslice_fits (by omega) jf);have DB:=grown cap (by omega) (Value.ownBlock (.slice g n cap));exact⟨_,_,hr,DB.1,DB.2,.inr rfl⟩
section
variable{P:Program}{w:World}{ops:Array Oper}{rest:List Oper}{o:Oper}{a:Act}{ao:Exit->Act->World->Prop}
theorem kg(o7:o.guard=none)(s x:Operand)(t tn:TypeId)(ho:o.op=.call {callee:=.builtin .append,args:=#[s,x],argTypes:=#[t,tn]})
 (base:Nat)(e:TypeId){z:Value}{size bytes:Nat}(kq kn:IntKind)(fU:(P.info? e).map (λi=>(i.zero,i.size,i.bytes))=some (some z,size,bytes))(ht:P.underlying t=some (.slice e))(kH:P.underlying tn=some (.int kn))
 (nZ:z.cells.size=size)(fM:0<size)(v:Value)(n:Nat)(xs:List Value)(hs:a.eval s=v)(cG:w.ownsRow base e size v n xs)(k:Nat)(h0:0<k)(D:a.eval x=.int kq k)(news:List Value)(lZ:(Builtin.zeroCells z.cells k).toList=news)(F:∀u∈news,u.oneCell'=true)
 (Aj:n+k<=maxLen)(jf:(n+k) * bytes<=140737488355328)(ko:base<=w.1.size)
 (h:∀v' w',w'.ownsRow base e size v' (n+k) (xs++news)->w.grownBy w' v.ownBlock->Below base w w'->(v'.ownBlock=v.ownBlock\/v'.ownBlock=some w.1.size)->wpList P ops ao rest (a.put o.dst v') w'):wpList P ops ao (o::rest) a w:=by
 obtain⟨v',w',hr,R,h3,h4⟩:=mM (P:=P) w base t tn o.type e kq kn fU ht kH nZ fM v n xs cG k h0 news lZ F Aj jf ko;have I:Below base w w':=⟨h3.os,h3.tape,h3.output,h3.size,λq hq=>h3.block q (aU hq ko) (λhe=>by have:=(cG.lt q he.symm).1;omega)⟩;exact Lib.wpList_append_run w o7 s x t tn ho v (.int kq k) hs D v' w' hr (h v' w' R h3 I h4)
end
end Go.Proofs.YtmgahjkopiaglaaGreat
namespace Go.Proofs.YtmgahjkopiaglaaGreat
open Go.RowKit Go.Proofs.Tryz
theorem qR(w:World)(q:Nat):w.drew.1[q]?=w.1[q]?:=rfl
end Go.Proofs.YtmgahjkopiaglaaGreat
namespace Go.Proofs.YtmgahjkopiaglaaGreat
open Go.RowKit Go.Proofs.Tryz
variable{v u:Value}{f g:Fr}{w:World}
theorem Pm{b:Bool}(h:iO false w 0 w.1.size v f)(hr:Fr.right f=b):Calls prog 103 #[v] w λx w'=>x=.returned (.bool b)/\aY w w':=by subst hr;exact sI v f w h
namespace Fr
end Fr
end Go.Proofs.YtmgahjkopiaglaaGreat
namespace Go.Proofs.YtmgahjkopiaglaaGreat
open Go.RowKit Go.Proofs.Tryz
section
variable{w w':World}{g k:Nat}{f:Nat->Pc.bG}
theorem Bj{o:Nat}{u u0:Value}(h:w.cell? ⟨g,o,none⟩=some u0):(w.setCell ⟨g,o,none⟩ u).cell? ⟨g,o,none⟩=some u:=by
 unfold World.cell? at h⊢;cases I:w.1[g]? with
 |none=>rw[I] at h;cases h
 |some x=>
  rw[I] at h;cases x<;>dsimp only at h<;>try (cases h;done)
  case cells c e fr=>
   simp only[Option.isSome_none,tC,if_false] at h;have bY:o<c.size:=(xv.1 h).1;have hg:g<w.1.size:=(xv.1 I).1;have e1:(w.setCell ⟨g,o,none⟩ u).1[g]?=some (.cells (c.setIfInBounds o u) e fr):=by
    unfold World.setCell;have:=xv.1 I;simp[zT,I]
   rw[e1];simp[bY]
theorem qS{o o':Nat}{u:Value}(h:o'≠o):(w.setCell ⟨g,o,none⟩ u).cell? ⟨g,o',none⟩=w.cell? ⟨g,o',none⟩:=by
 unfold World.cell?;have e:(w.setCell ⟨g,o,none⟩ u).1[g]?=(w.1[g]?).map λx=>match x with | .cells c e fr=> .cells (c.setIfInBounds o u) e fr|x=>x:=by
  unfold World.setCell;simp[zT];cases w.1[g]? with
  |none=>rfl
  |some x=>cases x<;>rfl
 rw[e];cases w.1[g]? with
 |none=>rfl
 |some x=>cases x<;>simp[fT h]
end
section
variable{w w':World}{g m:Nat}{p q:Pc.bG}
end
theorem Src.acp{α:Type}{r:Y α}{fr:Bool}{w:World}{S:Nat->Prop}{A:Option Addr}{xs:List α}(h:dm r fr w S A xs):
 ∃news,news.length=xs.length * r.size/\r.all fr w S news xs/\Src w A xs.length news:=by
 obtain⟨cells,F,R⟩:=h;refine⟨cells,Y.wy F,F,λhn=>?_⟩;obtain⟨g,o,rfl,_,h3⟩:=R hn;exact⟨g,o,rfl,λj u hj=>(h3 j u hj).1⟩
section
variable{P:Program}{w:World}{ops:Array Oper}{rest:List Oper}{o:Oper}{a:Act}{ao:Exit->Act->World->Prop}
theorem gB{α:Type}{r:Y α}{fr:Bool}{S:Nat->Prop}{ys:List α}(o7:o.guard=none)(s x:Operand)(t:TypeId)(ho:o.op=.call {callee:=.builtin .append,args:=#[s,x],argTypes:=#[t,t]})
 (base:Nat)(e:TypeId){z:Value}{bytes:Nat}(fU:(P.info? e).map (λi=>(i.zero,i.size,i.bytes))=some (some z,r.size,bytes))(ht:P.underlying t=some (.slice e))
 (nZ:z.cells.size=r.size)(v:Value)(n:Nat)(xs:List Value)(hs:a.eval s=v)(cG:w.ownsRow base e r.size v n xs)
 (A:Option Addr)(c:Nat)(D:a.eval x=.slice A ys.length c)(hr:dm r fr w S A ys)
 (Aj:n+ys.length<=maxLen)(jf:(n+ys.length) * bytes<=140737488355328)(ko:base<=w.1.size)
 (h:∀v' w' news,r.all fr w S news ys->w'.ownsRow base e r.size v' (n+ys.length) (xs++news)->w.grownBy w' v.ownBlock->Below base w w'->(v'.ownBlock=v.ownBlock\/v'.ownBlock=some w.1.size)->wpList P ops ao rest (a.put o.dst v') w'):wpList P ops ao (o::rest) a w:=by
 obtain⟨news,F,R,h3⟩:=Src.acp hr;exact px o7 λ_ hK=>mE s x t ho base e fU ht nZ r.pos v n xs hs cG A ys.length c news D F h3 (Y.Ak R) Aj jf ko λv' w' k1 k2 k3 k4=>hK _ _ (h v' w' news R k1 k2 k3 k4)
end
section
variable{p:Pc.bG}
end
end Go.Proofs.YtmgahjkopiaglaaGreat
