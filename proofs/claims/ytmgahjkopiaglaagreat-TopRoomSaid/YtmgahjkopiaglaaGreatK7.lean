/- Lemmas, walks and contracts by which the statement is proved. -/
import Derived.Test.YtmgahjkopiaglaaGreatK6
set_option maxRecDepth 100000
set_option maxHeartbeats 16000000
set_option linter.all false
namespace Go.Proofs.YtmgahjkopiaglaaGreat
open Go.RowKit Go.Proofs.Tryz
theorem Tryz.Po:(prog.info? 141).map (λi=>(i.zero,i.size,i.bytes))=some (some (.agg #[aP,aP]),2,16):=by kernel_rfl
def La.ux(l:List Fr):List (Int×Int):=(l.filter λf=>f.kind==0).map λf=>(f.seq,f.bB)
theorem La.Pp{l:List Fr}{j:Nat}{f:Fr}(D:l[j]?=some f)(h:f.kind=0):La.ux (l.take (j+1))=La.ux (l.take j)++[(f.seq,f.bB)]:=by
 unfold La.ux;rw[Pc.de D,qG,jP];simp[h]
theorem La.R7{l:List Fr}{j:Nat}{f:Fr}(D:l[j]?=some f)(h:f.kind≠0):La.ux (l.take (j+1))=La.ux (l.take j):=by
 unfold La.ux;rw[Pc.de D,qG,jP];simp[h]
theorem La.Pq(l:List Fr):(La.ux l).length<=l.length:=by unfold La.ux;rw[ic];exact zR _ _
theorem JY(v:Value)(a:La)(w:World)(h:ky false w 0 w.1.size v a)(hn:a.l.length<=1000000):Calls prog 37 #[v] w
 λy w'=>(∃u,y=.returned u/\aM Y.msg true w' w.1.size w'.1.size u (La.msgs a))/\aY w w':=by
 obtain⟨A,c,rfl,F⟩:=h;have hl:=F.kh;go_in;go_upto_region 1 with fail
 refine jt λW0 bx J=>?_;have hs:=F.kZ;have MG:=U bx;replace J:=U J;clear F;obtain⟨d0,d1,d2⟩:=bP bx;have qy:=bx.lt;go_wp2;clear bx qy d0 d1 d2;go_loopg [3,9] a.l.length (λm u i wr=>∃j:Nat,i=.int .i64 (j:Int)/\j<=a.l.length/\m=a.l.length-j/\Acc Y.msg 141 W0.1.size wr u (La.ux (a.l.take j))/\aY W0 wr)
 case atStart=>exact⟨0,rfl,by omega,by omega,Acc.nil _ _ _ _,cT⟩
 case round=>
  obtain⟨j,rfl,hj,hm,AY,I⟩:=hrel;change aK _ at hm;have bx:=MG.next I;obtain⟨d0,d1,d2⟩:=bP bx;obtain⟨ms,LO⟩:=cJ (La.ux (a.l.take j));have qT:ms.length<=1000000:=by rw[<-LO];have F:=La.Pq (a.l.take j);rw[dL] at F;omega
  rw[LO] at AY;change aK _ at LO;obtain⟨UA,uc,hv,_,_,_⟩:=id AY.slice;obtain⟨n,xm⟩:=cJ ms.length;rw[xm] at hv;subst hv;change aK _ at xm;have hwr:=I.size;by_cases bY:j<a.l.length
  ·
   obtain⟨x,D⟩:=Pc.get_at bY;have Vf:=J.trans (I.mono J.size);obtain⟨g,o,cA,cB,ck,cl,he,_,hg,hc,_⟩:=(hs.below Vf bE).frame D;subst he;have c0:=hc 0 _ rfl;have c1:=hc 1 _ rfl;have c2:=hc 2 _ rfl;have c3:=hc 3 _ rfl;have c4:=hc 4 _ rfl;have c5:=hc 5 _ rfl;have c6:=hc 6 _ rfl;have c7:=hc 7 _ rfl;have c8:=hc 8 _ rfl;simp only[iS] at c0;replace D:=U D;clear hc hs;have gg:g<wr.1.size:=aU hg Vf.size;have qy:=bx.lt;clear Vf;by_cases Q:x.kind=0;all_goals
    have HKK:=U Q
   ·have hkb:(x.kind==0)=true:=by simpa using Q
    clear Q;go_wp2_with (at_builtin;refine yi (r:=Y.msg) (w0:=wr) (y:=(x.seq,x.bB)) rfl (.tmp 16) (.tmp 19) 93 rfl W0.1.size 141 Tryz.Po underlying93 rfl (by omega) (.slice UA n uc) rfl AY (λb _ R=>nm _ _ R) (by simp) hwr 1 _ [x.seq,x.bB] rfl (by simp) rfl qT ?_;intro v9 w9 T2 ahH j7);rw[<-LO.Z,<-La.Pp D.Z HKK.Z] at T2;go_roundg (a.l.length-(j+1))
    case rel=>exact⟨j+1,by simp,by omega,rfl,T2,(I.alloc I.size _).trans j7⟩
    case measure=>have:=hm.Z;omega
   ·have hkb:(x.kind==0)=false:=by simpa using Q
    clear Q;go_wp2;go_roundg (a.l.length-(j+1))
    case rel=>exact⟨j+1,by simp,by omega,rfl,by rw[La.R7 D.Z HKK.Z,LO.Z];exact AY.below (cT.alloc bE _),I.alloc I.size _⟩
    case measure=>have:=hm.Z;omega
  ·
   have Bl:=LO.Z;rw[jL (by omega)] at Bl;replace Bl:=U Bl;replace AY:=U AY;have qy:=bx.lt;go_wp2;go_ret;exact⟨⟨_,rfl,by rw[show La.msgs a=ms from Bl.Z];exact AY.slice.aF J.size bE⟩,J.trans (I.mono J.size)⟩
end Go.Proofs.YtmgahjkopiaglaaGreat
namespace Go.Proofs.YtmgahjkopiaglaaGreat
open Go.RowKit Go.Proofs.Tryz
def jC(w:World)(S:Nat->Prop)(B:Nat)(v:Value)(a:La):Prop:=∃A c,v=.agg #[a.bF,a.cap,.slice A a.l.length c]/\ay Y.frame false w (GY S B w.1.size) (.slice A a.l.length c) a.l/\(0<a.l.length->∃g cur,A=some ⟨g,0,none⟩/\B<=g/\w.1[g]?=some (.cells cur 149 (0,0))/\a.l.length * 9<=cur.size)
theorem jC.on{w:World}{S:Nat->Prop}{B:Nat}{v:Value}{a:La}(h:jC w S B v a):kz w (GY S B w.1.size) v a:=by
 obtain⟨A,c,rfl,F,_⟩:=h;exact⟨A,c,rfl,F⟩
theorem jC.Mx{w:World}{S:Nat->Prop}{B:Nat}{v:Value}{a:La}(h:jC w S B v a)(hS:∀b,S b->b<B)(J:B<=w.1.size):ky false w 0 w.1.size v a:=
 h.on.Mx λb I=>I.elim (λq=>aU (hS b q) J) (λq=>q.2)
theorem jC.zero{w:World}{S:Nat->Prop}{B:Nat}:jC w S B (.agg #[false,aP,()]) La.zero:=⟨none,0,rfl,ay.none_,λh=>absurd h (by simp[La.zero])⟩
theorem jC.of{w w':World}{S:Nat->Prop}{B gr n c:Nat}{cur:Array Value}{a:La}(hs:ay Y.frame false w (λb=>S b\/b=gr) (.slice gr n c) a.l)(ct:w.1[gr]?=some (.cells cur 149 (0,0)))(J:B<=gr)(fM:n * 9<=cur.size)(Q:∀b,S b\/b=gr->w'.1[b]?=w.1[b]?):
 jC w' S B (.agg #[a.bF,a.cap,.slice gr n c]) a:=by
 obtain⟨A,c2,he,_⟩:=id hs;injection he with F R h3
 subst R;have hg:w'.1[gr]?=_:=(Q gr (.inr rfl)).trans ct;refine⟨_,_,rfl,(hs.aE λb I=>Q b I).aF λb I=>I.imp id λq=>?_,λ_=>⟨gr,cur,rfl,J,hg,fM⟩⟩;subst q;exact⟨J,gm hg⟩
section
variable{w w0:World}{g o B:Nat}{a0 a1 a2 a3 a4 a5 a6 a7 a8:Value}
theorem Pr{k:Nat}(h:k≠g):(((((((((w.setCell ⟨g,o,none⟩ a0).setCell ⟨g,o+1,none⟩ a1).setCell ⟨g,o+2,none⟩ a2).setCell ⟨g,o+3,none⟩ a3).setCell ⟨g,o+4,none⟩ a4).setCell ⟨g,o+5,none⟩ a5).setCell ⟨g,o+6,none⟩ a6).setCell ⟨g,o+7,none⟩ a7).setCell ⟨g,o+8,none⟩ a8).1[k]?=w.1[k]?:=by
 rw[dF _ _ _ _ h,dF _ _ _ _ h,dF _ _ _ _ h,dF _ _ _ _ h,dF _ _ _ _ h,dF _ _ _ _ h,dF _ _ _ _ h,dF _ _ _ _ h,dF _ _ _ _ h]
theorem MH:(((((((((w.setCell ⟨g,o,none⟩ a0).setCell ⟨g,o+1,none⟩ a1).setCell ⟨g,o+2,none⟩ a2).setCell ⟨g,o+3,none⟩ a3).setCell ⟨g,o+4,none⟩ a4).setCell ⟨g,o+5,none⟩ a5).setCell ⟨g,o+6,none⟩ a6).setCell ⟨g,o+7,none⟩ a7).setCell ⟨g,o+8,none⟩ a8).1.size=w.1.size:=by
 simp only[World.size_setCell]
theorem JZ(h:Below B w0 w)(hg:B<=g):Below B w0 (((((((((w.setCell ⟨g,o,none⟩ a0).setCell ⟨g,o+1,none⟩ a1).setCell ⟨g,o+2,none⟩ a2).setCell ⟨g,o+3,none⟩ a3).setCell ⟨g,o+4,none⟩ a4).setCell ⟨g,o+5,none⟩ a5).setCell ⟨g,o+6,none⟩ a6).setCell ⟨g,o+7,none⟩ a7).setCell ⟨g,o+8,none⟩ a8):=
 ((((((((h.setCell hg _).setCell hg _).setCell hg _).setCell hg _).setCell hg _).setCell hg _).setCell hg _).setCell hg _).setCell hg _
end
def uV(a:La)(W:World)(u:Value)(w:World):Prop:=
 ∃gb gr,u=.pointer (some ⟨gb,0,none⟩)/\W.1.size<=gb/\W.1.size<=gr/\gb≠gr/\G w gb #[a.bF,a.cap,.slice (some ⟨gr,0,none⟩) (a.l.length+1) (a.l.length+1)] 105/\w.1[gr]?=some (.cells (madeCells (Value.agg #[aP,aP,aP,aP,(),aP,aP,aP,()]).cells ((a.l.length+1) * 9)) 149 (0,0))/\aY W w
theorem uV.one(a:La)(W:World):uV a W (.pointer (some ⟨W.1.size+1,0,none⟩)) ((W.alloc (.cells (madeCells (Value.agg #[aP,aP,aP,aP,(),aP,aP,aP,()]).cells ((a.l.length+1) * 9)) 149)).alloc (.cells #[a.bF,a.cap,.slice W.1.size (a.l.length+1) (a.l.length+1)] 105)).drew:=
 ⟨W.1.size+1,W.1.size,rfl,Nat.le_succ _,bE,by omega,(qR _ _).trans (G.kZ _ _ (by simp)),(qR _ _).trans ((nm _ _ (by simp)).trans (np _ _)),((cT.alloc bE _).alloc (by simp) _).drew⟩
theorem uV.two(a:La)(W:World):uV a W (.pointer W.1.size) ((W.alloc (.cells #[a.bF,a.cap,.slice (some ⟨W.1.size+1,0,none⟩) (a.l.length+1) (a.l.length+1)] 105)).alloc (.cells (madeCells (Value.agg #[aP,aP,aP,aP,(),aP,aP,aP,()]).cells ((a.l.length+1) * 9)) 149)).drew:=
 ⟨W.1.size,W.1.size+1,rfl,bE,Nat.le_succ _,by omega,(qR _ _).trans ((G.kZ _ _ rfl).alloc _),(qR _ _).trans (by have:=np (W.alloc (.cells #[a.bF,a.cap,.slice (some ⟨W.1.size+1,0,none⟩) (a.l.length+1) (a.l.length+1)] 105)) (.cells (madeCells (Value.agg #[aP,aP,aP,aP,(),aP,aP,aP,()]).cells ((a.l.length+1) * 9)) 149);simpa using this),((cT.alloc bE _).alloc (by simp) _).drew⟩
theorem MI(n:Nat):(madeCells (Value.agg #[aP,aP,aP,aP,(),aP,aP,aP,()]).cells ((n+1) * 9)).toList.drop (n * 9)=[.int .i64 0,.int .i64 0,.int .i64 0,.int .i64 0,.slice none 0 0,.int .i64 0,.int .i64 0,.int .i64 0,.slice none 0 0]:=by
 apply List.ext_getElem?;intro i;rw[vZ];rcases pQ i 9 with h|h
 ·have e:(n * 9+i) % 9=i:=by omega
  have hl:n * 9+i<(n+1) * 9:=by omega
  simp only[madeCells,Ad,Array.toList_range,z',List.getElem?_range hl,we];have hc:i=0\/i=1\/i=2\/i=3\/i=4\/i=5\/i=6\/i=7\/i=8:=by omega
  rw[show(Value.agg #[aP,aP,aP,aP,(),aP,aP,aP,()]).cells.size=9 from rfl,e];rcases hc with rfl |rfl |rfl |rfl |rfl |rfl |rfl |rfl |rfl<;>rfl
 ·rw[uJ (by simp[madeCells];omega),uJ (by simpa using h)]
theorem iC{w:World}{g o:Nat}{cs l:List Value}{e:TypeId}{u:Value}(h:w.1[g]?=some (.cells (cs++l).toArray e (0,0)))(ho:cs.length=o)(i:Nat)(hu:l[i]?=some u):w.cell? ⟨g,o+i,none⟩=some u:=by
 rw[aD h];subst ho;rw[dY,pJ (Nat.le_add_right _ _),vQ];exact hu
theorem Fh(v vf:Value)(a:La)(f:Fr)(w:World)(S:Nat->Prop)(hS:∀b,S b->b<w.1.size)(h:kz w S v a)(hf:nt false w S vf f)(hn:a.l.length<1000000)(HR:aK (Fr.right f=true)):Calls prog 79 #[v,vf] w
 λy w'=>(∃u,y=.returned (.tuple #[u,.int .i64 (La.kx a f)])/\jC w' S w.1.size u (La.push a f))/\aY w w':=by
 obtain⟨A,c,rfl,F⟩:=h;obtain⟨pA,pB,pk,pl,he,_,_⟩:=id hf;subst he;have hl:=(F.og hS).kh;have Rx:=hf.Mx hS;change aK _ at hS;go_in;go_upto_region 1 with fail
 refine OB λW0 bx bf b4 J=>?_;have pU:=b4.lt;have hp:=Rx.next J;clear Rx;replace hf:=U hf;replace J:=U J;replace pU:=U pU;have hs:=F.aE (λb q=>J.block b (hS.Z b q));clear F;obtain⟨c0,c1,c2,c3,c4,c5,c6,c7,c8⟩:=bJ bf;go_wp2_with fail;clear c0 c1 c2 c3 c4 c5 c6 c7 c8;refine(Pm hp HR.Z).mono ?_;rintro z w1 ⟨rfl,I⟩;replace bx:=bx.next I;replace bf:=bf.next I;replace b4:=b4.next I;replace hs:=hs.aE (λb q=>(I.mono J.size).block b (hS b q));have qU:=J.trans (I.mono J.size);have j8:=I.size;replace qU:=U qU;replace j8:=U j8;clear I hp;go_upto_region 3 with fail
 go_cut [6] (λu wx=>uV a w1 u wx)
 case first=>
  have hz:(prog.info? 149).isSome=true:=by kernel_rfl
  obtain⟨i0,CI,Gf,xj,mJ⟩:=mC Tryz.tT;have rI:((a.l.length:Int)+1).toNat=a.l.length+1:=by omega
  have R8:∀w2:World,(Instr.makeSlice 103 (.int .i64 ((a.l.length:Int)+1)) (.int .i64 ((a.l.length:Int)+1))).run prog w2=_:=λw2=>run_make (P:=prog) w2 103 149 i0 _ underlying103 CI Gf .i64 .i64 ((a.l.length:Int)+1) ((a.l.length:Int)+1) (by omega) (wm _) (by rw[mJ];omega) (by omega);simp only[rI,xj] at R8;clear CI Gf xj mJ hz rI;obtain⟨d0,d1,d2⟩:=bP bx;have qy:=bx.lt;go_region;all_goals
   go_wp2;go_meet
  ·exact uV.one _ _
  ·exact uV.two _ _
 case rest=>
  obtain⟨gb,gr,rfl,k1,k2,k3,bg,ct,I⟩:=hcut;obtain⟨W2,rfl⟩:∃x:World,x=wc:=⟨_,rfl⟩;replace bx:=bx.next I;replace bf:=bf.next I;replace b4:=b4.next I;have ly:=qU.trans (I.mono qU.size);have vK:=hs.aE (λb q=>(I.mono qU.size).block b (hS.Z b q));have hwz:w.1.size+1+1<w1.1.size:=aU pU.Z j8.Z;clear hs I;obtain⟨cells,fg,nq⟩:=vK.arr;have nN:cells.length=a.l.length * 9:=Y.wy fg;have yW:=Y.Ak fg;obtain⟨d0,d1,d2⟩:=bP bx;obtain⟨g0,g1,g2⟩:=bP bg;have qy:=bx.lt;have gg:=bg.lt;replace fg:=U fg;replace nq:=U nq;replace yW:=U yW;change aK _ at nN;replace ct:=U ct;clear vK;go_upto_region 5 with(refine yV rfl (.tmp 22) (.tmp 24) 103 103 rfl 149 9 underlying103 (by kernel_rfl) gr (a.l.length+1) (a.l.length+1) A a.l.length c rfl rfl _ 149 ct.Z cells nN.Z (Nat.le_succ _) (λh0=>by obtain⟨g2,o2,e,_,R⟩:=nq h0;exact⟨g2,o2,e,λj v hj=>(R j v hj).1⟩) (by rw[nN.Z];simp[madeCells];omega) yW.Z ?_;intro w3 jD DF ahI Vg)
  clear d0 d1 d2;clear g0 g1 g2;rw[nN.Z,MI] at jD;have Xs:G w3 w.1.size #[a.bF,a.cap,.slice A a.l.length c] 105:=(DF _ (by omega)).trans bx;have bf3:G w3 (w.1.size+1) #[f.kind,f.aC,f.seq,f.bB,.slice pA f.pieces.length pk,f.init,f.num,.int .i64 f.count,.slice pB f.path.length pl] 149:=(DF _ (by omega)).trans bf;have b43:G w3 (w.1.size+1+1) #[false,aP,()] 105:=(DF _ (by omega)).trans b4;have bg3:G w3 gb #[a.bF,a.cap,.slice gr (a.l.length+1) (a.l.length+1)] 105:=(DF _ k3).trans bg;have fO:=ly.trans (Vg.mono (by omega));clear bx bf b4 bg ly Vg qy gg;have e0:w3.cell? ⟨gr,a.l.length * 9,none⟩=some (.int .i64 0):=iC jD nN.Z 0 rfl;have e1:w3.cell? ⟨gr,a.l.length * 9+1,none⟩=some (.int .i64 0):=iC jD nN.Z 1 rfl;have e2:w3.cell? ⟨gr,a.l.length * 9+2,none⟩=some (.int .i64 0):=iC jD nN.Z 2 rfl;have e3:w3.cell? ⟨gr,a.l.length * 9+3,none⟩=some (.int .i64 0):=iC jD nN.Z 3 rfl;have e4:w3.cell? ⟨gr,a.l.length * 9+4,none⟩=some (.slice none 0 0):=iC jD nN.Z 4 rfl;have e5:w3.cell? ⟨gr,a.l.length * 9+5,none⟩=some (.int .i64 0):=iC jD nN.Z 5 rfl;have e6:w3.cell? ⟨gr,a.l.length * 9+6,none⟩=some (.int .i64 0):=iC jD nN.Z 6 rfl;have e7:w3.cell? ⟨gr,a.l.length * 9+7,none⟩=some (.int .i64 0):=iC jD nN.Z 7 rfl;have e8:w3.cell? ⟨gr,a.l.length * 9+8,none⟩=some (.slice none 0 0):=iC jD nN.Z 8 rfl;have f0:w3.frozen? ⟨gr,a.l.length * 9,none⟩=false:=by simp[World.frozen?,jD]
  have f1:w3.frozen? ⟨gr,a.l.length * 9+1,none⟩=false:=by simp[World.frozen?,jD]
  have f2:w3.frozen? ⟨gr,a.l.length * 9+2,none⟩=false:=by simp[World.frozen?,jD]
  have f3:w3.frozen? ⟨gr,a.l.length * 9+3,none⟩=false:=by simp[World.frozen?,jD]
  have f4:w3.frozen? ⟨gr,a.l.length * 9+4,none⟩=false:=by simp[World.frozen?,jD]
  have f5:w3.frozen? ⟨gr,a.l.length * 9+5,none⟩=false:=by simp[World.frozen?,jD]
  have f6:w3.frozen? ⟨gr,a.l.length * 9+6,none⟩=false:=by simp[World.frozen?,jD]
  have f7:w3.frozen? ⟨gr,a.l.length * 9+7,none⟩=false:=by simp[World.frozen?,jD]
  have f8:w3.frozen? ⟨gr,a.l.length * 9+8,none⟩=false:=by simp[World.frozen?,jD]
  obtain⟨d0,d1,d2⟩:=bP Xs;obtain⟨g0,g1,g2⟩:=bP bg3;obtain⟨c0,c1,c2,c3,c4,c5,c6,c7,c8⟩:=bJ bf3;have Vg:=Xs.lt;have ahJ:=bf3.lt;have ahK:=bg3.lt;have ahL:=gm jD;replace jD:=U jD;go_upto_region 6 with fail
  refine bK λw4 Vh=>?_;have LP:w4.1[gr]?=some (.cells (cells++([f.kind,f.aC,f.seq,f.bB,.slice pA f.pieces.length pk,f.init,f.num,.int .i64 f.count,.slice pB f.path.length pl]:List Value)).toArray 149 (0,0)):=by subst Vh;exact MF jD.Z nN.Z
  have hf4:∀k,k≠gr->w4.1[k]?=w3.1[k]?:=by intro k Q;subst Vh;exact Pr Q
  have Yl:w4.1.size=w3.1.size:=by subst Vh;exact MH
  have ob:aY w w4:=by subst Vh;exact JZ fO (by omega)
  clear Vh;clear c0 c1 c2 c3 c4 c5 c6 c7 c8;clear e0 e1 e2 e3 e4 e5 e6 e7 e8;clear f0 f1 f2 f3 f4 f5 f6 f7 f8;clear d0 d1 d2;clear g0 g1 g2;have Xt:G w4 gb #[a.bF,a.cap,.slice gr (a.l.length+1) (a.l.length+1)] 105:=(hf4 _ k3).trans bg3;have R9:G w4 (w.1.size+1+1) #[false,aP,()] 105:=(hf4 _ (by omega)).trans b43;have T3:Y.frame.all false w4 (λb=>S b\/b=gr) (cells++uT f (.slice pA f.pieces.length pk) (.slice pB f.path.length pl)) (La.more a f).l:=Y.sm (Y.jw (λb I=> .inl I) (Y.ej (λb I=>(hf4 b (by have:=hS.Z b I;omega)).trans (DF b (by have:=hS.Z b I;omega))) fg.Z)) (Y.frame.aF (hf.aE (λb I=>ob.block b (hS b I))).rep (λb I=> .inl I));have qT:a.l.length+1=(La.more a f).l.length:=by simp[La.more]
  have rK:ay Y.frame false w4 (λb=>S b\/b=gr) (.slice gr (a.l.length+1) (a.l.length+1)) (La.more a f).l:=ay.wG LP T3 (.inr rfl) qT (ca qT.symm) (by unfold maxLen;omega);have Vi:(a.l.length+1) * 9<=(cells++([f.kind,f.aC,f.seq,f.bB,.slice pA f.pieces.length pk,f.init,f.num,.int .i64 f.count,.slice pB f.path.length pl]:List Value)).toArray.size:=by have:=nN.Z;simp[this];omega
  have lZ:jC w4 S w.1.size (.agg #[a.bF,a.cap,.slice gr (a.l.length+1) (a.l.length+1)]) (La.more a f):=jC.of (a:=La.more a f) rK LP (by omega) Vi (λ_ _=>rfl);change aK _ at LP Vi;clear qT;clear T3 bg3 bf3 b43 Xs;have Fi:=G2 _ (La.more a f) w4 (lZ.Mx hS.Z ob.size) (by simp[La.more];omega);obtain⟨q,hq⟩:=cJ (La.right (La.more a f));rw[hq] at Fi;replace lZ:=U lZ;change aK _ at hq;replace Fi:=U Fi;replace ob:=U ob;clear fO DF hf4 fg jD ct yW nq hf;obtain⟨g0,g1,g2⟩:=bP Xt;obtain⟨z0,z1,z2⟩:=bP R9;have ahM:=Xt.lt;have ahN:=R9.lt;go_wp2_with fail;refine Fi.mono ?_;rintro z w5 ⟨rfl,I⟩;clear g0 g1 g2 z0 z1 z2;replace Xt:=Xt.next I;replace R9:=R9.next I;obtain⟨g0,g1,g2⟩:=bP Xt;obtain⟨z0,z1,z2⟩:=bP R9;have zf0:=ey R9 0;have zf1:=ey R9 1;have zf2:=ey R9 2;have Ym:=Xt.lt;have ahO:=R9.lt;have T4:=U (ob.trans (I.mono ob.size));have HK5:=U (I.block);clear I;clear lZ;cases q with
  |false=>
   go_wp2;refine bL (v:=.tuple #[.agg #[false,aP,()],.int .i64 6]) (by simp[results,results79,go_sem,z0,z1,z2]) rfl ?_;exact⟨⟨_,by rw[La.kx,aS HR.Z,hq.Z];rfl,by rw[La.push,HR.Z,hq.Z];exact jC.zero⟩,((T4.setCell (by simp;omega) _).setCell (by simp;omega) _).setCell (by simp;omega) _⟩
  |true=>
   go_wp2;refine bL (v:=.tuple #[.agg #[a.bF,a.cap,.slice gr (a.l.length+1) (a.l.length+1)],aP]) (by simp[results,results79,go_sem,z0,z1,z2]) rfl ?_;exact⟨⟨_,by rw[La.kx,aS HR.Z,hq.Z];rfl,by rw[La.push,HR.Z,hq.Z];exact jC.of (a:=La.more a f) rK LP.Z (by omega) Vi.Z (λb I=>by have I:=I.imp (hS.Z b) id;rw[dF _ _ _ _ (by simp;omega),dF _ _ _ _ (by simp;omega),dF _ _ _ _ (by simp;omega)];exact HK5 b (by omega))⟩,(((T4.setCell (by simp;omega) _).setCell (by simp;omega) _).setCell (by simp;omega) _)⟩
theorem Fj(v vf:Value)(a:La)(f:Fr)(w:World)(S:Nat->Prop)(hS:∀b,S b->b<w.1.size)(h:kz w S v a)(hf:nt false w S vf f)(HR:aK (Fr.right f=false)):Calls prog 79 #[v,vf] w
 λy w'=>(∃u,y=.returned (.tuple #[u,.int .i64 (La.kx a f)])/\jC w' S w.1.size u (La.push a f))/\aY w w':=by
 obtain⟨A,c,rfl,F⟩:=h;obtain⟨pA,pB,pk,pl,he,_,_⟩:=id hf;subst he;have hl:=(F.og hS).kh;have Rx:=hf.Mx hS;change aK _ at hS;go_in;go_upto_region 1 with fail
 refine bK λW0 pU=>?_;have bf:G W0 (w.1.size+1) #[f.kind,f.aC,f.seq,f.bB,.slice pA f.pieces.length pk,f.init,f.num,.int .i64 f.count,.slice pB f.path.length pl] 149:=pU▸(G.kZ _ _ (by simp)).alloc _;have b4:G W0 (w.1.size+1+1) #[false,aP,()] 105:=pU▸G.kZ _ _ (by simp);have J:aY w W0:=pU▸((cT.alloc bE _).alloc (by simp) _).alloc (by simp;omega) _;clear pU;have hp:=Rx.next J;clear hf F Rx;obtain⟨c0,c1,c2,c3,c4,c5,c6,c7,c8⟩:=bJ bf;have qy:=bf.lt;have T5:=b4.lt;go_wp2_with fail;clear c0 c1 c2 c3 c4 c5 c6 c7 c8;refine(Pm hp HR.Z).mono ?_;rintro z w1 ⟨rfl,I⟩;replace b4:=b4.next I;obtain⟨z0,z1,z2⟩:=bP b4;have zf0:=ey b4 0;have zf1:=ey b4 1;have zf2:=ey b4 2;have Yl:=b4.lt;have qU:=J.trans (I.mono J.size);go_wp2;refine bL (v:=.tuple #[.agg #[false,aP,()],.int .i64 4]) (by simp[results,results79,go_sem,z0,z1,z2]) rfl ?_;exact⟨⟨_,by rw[La.kx,HR.Z];rfl,by rw[La.push,HR.Z];exact jC.zero⟩,((qU.setCell (by simp;omega) _).setCell (by simp;omega) _).setCell (by simp;omega) _⟩
theorem J0(v vf:Value)(a:La)(f:Fr)(w:World)(S:Nat->Prop)(hS:∀b,S b->b<w.1.size)(h:kz w S v a)(hf:nt false w S vf f)(hn:a.l.length<1000000):Calls prog 79 #[v,vf] w
 λy w'=>(∃u,y=.returned (.tuple #[u,.int .i64 (La.kx a f)])/\jC w' S w.1.size u (La.push a f))/\aY w w':=by
 cases hr:Fr.right f with
 |true=>exact Fh v vf a f w S hS h hf hn (U hr)
 |false=>exact Fj v vf a f w S hS h hf (U hr)
end Go.Proofs.YtmgahjkopiaglaaGreat
namespace Go.Proofs.YtmgahjkopiaglaaGreat
open Go.RowKit Go.Proofs.Tryz
theorem MJ(n:Nat):∀u∈(Builtin.zeroCells (Value.agg #[aP,aP,aP,aP,(),aP,aP,aP,()]).cells n).toList,u.oneCell'=true:=by
 intro u hu;simp only[Builtin.zeroCells,Ad,pR] at hu;obtain⟨i,_,rfl⟩:=hu;have h:i % 9<9:=Nat.mod_lt _ (by omega);have e:i % 9=0\/i % 9=1\/i % 9=2\/i % 9=3\/i % 9=4\/i % 9=5\/i % 9=6\/i % 9=7\/i % 9=8:=by omega
 rw[show(Value.agg #[aP,aP,aP,aP,(),aP,aP,aP,()]).cells.size=9 from rfl];rcases e with e|e|e|e|e|e|e|e|e<;>rw[e]<;>rfl
theorem sL{w:World}{B n:Nat}{e:TypeId}{size:Nat}{v:Value}{xs:List Value}(h:w.ownsRow B e size v n xs)(hn:0<n):∃g cap,v=.slice (some ⟨g,0,none⟩) n cap/\n<=cap/\cap<=maxLen/\w.ownsRow B e size (.slice (some ⟨g,0,none⟩) 0 cap) 0 []:=by
 rcases h.2 with⟨_,h0⟩|⟨g,cap,cur,rfl,I,hg,F,R,h3,h4⟩
 ·omega
 ·exact⟨g,cap,rfl,F,R,by simp,.inr ⟨g,cap,cur,rfl,I,hg,fH _,R,h3,by simp⟩⟩
theorem G4(w:World):Calls prog 105 #[(),aP] w λy w'=>y=.returned (.slice none 0 0)/\aY w w':=by
 have J:=bI w.1.size w;go_in;go_wp2;go_ret;exact⟨rfl,J⟩
theorem G5(n:Nat)(w:World)(h0:0<n)(hn:n<=1000000):Calls prog 105 #[(),.int .i64 n] w λy w'=>(∃u,y=.returned u/\w'.ownsRow w.1.size 149 9 u 0 [])/\aY w w':=by
 have F:¬((n:Int)<0):=by omega
 have h3:wrap64 (n:Int)=(n:Int):=by unfold wrap64;omega
 have h4:(n:Int)>0:=by omega
 have yW:=MJ n;go_in;go_wp2_with (at_builtin;(refine kg (P:=prog) rfl (.tmp 20) (.tmp 21) 103 3 rfl w.1.size 149 .i64 .i64 Tryz.tT underlying103 underlying3 rfl (by omega) (.slice none 0 0) 0 [] rfl (pL _ _ _ _) n h0 rfl _ rfl yW (by unfold maxLen;omega) (by omega) bE ?_;intro v1 w1 T6 _ ee _;obtain⟨g,cap,rfl,k1,k2,ho2⟩:=sL T6 (by omega);clear T6;have Vj:=U ho2;clear ho2));go_ret;exact⟨⟨_,rfl,Vj.Z⟩,ee⟩
theorem J1(n:Nat)(w:World)(hn:n<=1000000):Calls prog 105 #[(),.int .i64 n] w λy w'=>(∃u,y=.returned u/\w'.ownsRow w.1.size 149 9 u 0 [])/\aY w w':=by
 rcases m7 n with h|h
 ·subst h;refine(G4 w).mono ?_;rintro y w' ⟨rfl,I⟩;exact⟨⟨_,rfl,pL _ _ _ _⟩,I⟩
 ·exact G5 n w h hn
theorem Fk(S:Nat->Prop)(g:Nat)(A1 A2:Option Addr)(c1 c2:Nat)(xs ys:List Fr)(w:World)(hS:∀b,S b->b<w.1.size)(F:ay Y.frame false w S (.slice A1 xs.length c1) xs)(R:ay Y.frame false w S (.slice A2 ys.length c2) ys)
 (ct:w.1[g]?=some (.cells #[.slice A1 xs.length c1,.slice A2 ys.length c2] 103 (0,0)))(hn:xs.length+ys.length<=1000000):Calls prog 80 #[.slice g 2 2] w
 λy w'=>(∃u cells,y=.returned u/\w'.ownsRow w.1.size 149 9 u (xs++ys).length cells/\Y.frame.all false w' S cells (xs++ys))/\aY w w':=by
 have b0:w.cell? ⟨g,0,none⟩=some (.slice A1 xs.length c1):=aD ct 0;have b1:w.cell? ⟨g,1,none⟩=some (.slice A2 ys.length c2):=aD ct 1;have gg:=gm ct;have q2:wrap64 (xs.length:Int)=xs.length:=by unfold wrap64;omega
 have q3:wrap64 ((xs.length:Int)+(ys.length:Int))=(xs.length:Int)+(ys.length:Int):=by unfold wrap64;omega
 have q1:¬((xs.length:Int)<0):=by omega
 have q4:¬((xs.length:Int)+(ys.length:Int)<0):=by omega
 have e1:((xs.length:Int)+(ys.length:Int))=((xs.length+ys.length:Nat):Int):=by simp
 change aK _ at e1;go_in;go_wp2;go_loopg [3,11] 2 (λk s i wr=>(i=.int .i64 0/\s=.int .i64 0/\k=2\/i=.int .i64 1/\s=.int .i64 (xs.length:Int)/\k=1\/i=.int .i64 2/\s=.int .i64 ((xs.length:Int)+(ys.length:Int))/\k=0)/\wr=w)
 case atStart=>exact⟨.inl ⟨rfl,rfl,rfl⟩,rfl⟩
 case round=>
  obtain⟨⟨rfl,rfl,rfl⟩|⟨rfl,rfl,rfl⟩|⟨rfl,rfl,rfl⟩,rfl⟩:=hrel
  ·go_wp2;go_roundg 1
   case rel=>exact⟨.inr (.inl ⟨rfl,rfl,rfl⟩),rfl⟩
   case measure=>omega
  ·go_wp2;go_roundg 0
   case rel=>exact⟨.inr (.inr ⟨rfl,rfl,rfl⟩),rfl⟩
   case measure=>omega
  ·clear q1 q2 q3 q4 b0 b1;obtain⟨W,rfl⟩:∃W:World,W=wr:=⟨_,rfl⟩;rw[e1.Z];go_wp2_with fail;refine(J1 (xs.length+ys.length) W hn).mono ?_;rintro z w1 ⟨⟨u0,rfl,ho⟩,I⟩;have jb:=(I.block g gg).trans ct;have xk:=F.aE (λb q=>I.block b (hS b q));have C4:=R.aE (λb q=>I.block b (hS b q));clear F R ct;have j8:=I.size;replace ho:=U ho;go_wp2;go_loopg [6,27] 2 (λk u i w2=>(i=.int .i64 0/\u=u0/\k=2/\w2=w1\/i=.int .i64 1/\(∃c1,w2.ownsRow W.1.size 149 9 u xs.length c1/\Y.frame.all false w2 S c1 xs)/\k=1\/i=.int .i64 2/\(∃c1,w2.ownsRow W.1.size 149 9 u (xs.length+ys.length) c1/\Y.frame.all false w2 S c1 (xs++ys))/\k=0)/\Below W.1.size w1 w2)
   case atStart=>exact⟨.inl ⟨rfl,rfl,rfl,rfl⟩,cT⟩
   case round=>
    obtain⟨⟨rfl,rfl,rfl,rfl⟩|⟨rfl,⟨cs1,D,hy⟩,rfl⟩|⟨rfl,⟨cs1,D,hy⟩,rfl⟩,dO⟩:=hrel
    ·have b0:=aD jb 0;replace b0:=b0.trans (show _=some (Value.slice A1 xs.length c1) from rfl);have HS:=U xk.arr;go_wp2_with (at_builtin;refine gB (r:=Y.frame) rfl (.tmp 31) (.tmp 32) 103 rfl W.1.size 149 Tryz.tT underlying103 rfl _ 0 [] rfl ho.Z A1 c1 rfl HS.Z (by unfold maxLen;omega) (by omega) j8 ?_;intro v3 w3 news rI cG hg fu ha);go_roundg 1
     case rel=>exact⟨.inr (.inl ⟨rfl,⟨news,by have q:=cG;rw[gh,iR] at q;exact q,Y.ej (λb I=>fu.block b (hS b I)) rI⟩,rfl⟩),dO.trans fu⟩
     case measure=>omega
    ·have uy:=(dO.block g gg).trans jb;have b1:=aD uy 1;replace b1:=b1.trans (show _=some (Value.slice A2 ys.length c2) from rfl);have HS:=U (C4.aE (λb q=>dO.block b (hS b q))).arr;have vK:=bT j8 dO.size;replace D:=U D;replace hy:=U hy;clear uy;go_wp2_with (at_builtin;refine gB (r:=Y.frame) rfl (.tmp 31) (.tmp 32) 103 rfl W.1.size 149 Tryz.tT underlying103 rfl _ xs.length cs1 rfl D.Z A2 c2 rfl HS.Z (by unfold maxLen;omega) (by omega) vK ?_;intro v3 w3 news rI cG hg fu ha);go_roundg 0
     case rel=>exact⟨.inr (.inr ⟨rfl,⟨cs1++news,cG,Y.all_append (Y.ej (λb I=>fu.block b (hS b I)) hy.Z) (Y.ej (λb I=>fu.block b (hS b I)) rI)⟩,rfl⟩),dO.trans fu⟩
     case measure=>omega
    ·replace D:=U D;replace hy:=U hy;go_wp2;go_ret;exact⟨⟨_,cs1,rfl,by rw[dh];exact D.Z,hy.Z⟩,I.trans (dO.mono bE)⟩
end Go.Proofs.YtmgahjkopiaglaaGreat
namespace Go.Proofs.YtmgahjkopiaglaaGreat
section
variable{P:Program}{ao:Exit->Act->World->Prop}{md:Region.Mode}
def Aq(C6:List Nat)(S:List Nat)(J2:Nat):Nat->Nat->Bool
 |0,m=>m==J2
 |k+1,m=>(λrs=> !rs.isEmpty&&rs.all λj=>S.contains j&&Aq C6 S J2 k (m|||2^j)) (ff m C6 0)
theorem J3(mask:Nat):∀(C6:List Nat)(j i:Nat),i∈ff mask C6 j->∃k em,i=j+k/\C6[k]?=some em/\mask.testBit i=false/\em&&& mask=em:=by
 intro C6;induction C6 with
 |nil=>intro j i h;simp[ff] at h
 |cons em t ih=>
  intro j i h;have step:i∈ff mask t (j+1)->∃k em',i=j+k/\(em::t)[k]?=some em'/\mask.testBit i=false/\em'&&& mask=em':=by
   intro h;obtain⟨k,em',rfl,R,h3,h4⟩:=ih (j+1) i h;exact⟨k+1,em',by omega,by simpa using R,h3,h4⟩
  unfold ff at h;split at h
  ·rename_i hc;rcases jQ.1 h with rfl |h
   ·simp only[cQ,nT,mz] at hc;exact⟨0,em,rfl,rfl,hc.1,hc.2⟩
   ·exact step h
  ·exact step h
theorem qe{M:Nat}{wM:World}{ops:Array Oper}{fuel:Nat}{li:Array Bool}{a:Act}{w:World}(h:∀A,a=A->aV P md ops ao M wM fuel li A w):aV P md ops ao M wM fuel li a w:=h a rfl
def dw(m i:Nat)(φ:Prop):Prop:=m.testBit i=true->φ
variable{m i j:Nat}{φ ψ:Prop}
theorem dw.other(h:dw m i φ)(fz:i≠j)(hs:φ->ψ):dw (m|||2^j) i ψ:=by
 intro I;rw[pO,si,lY,dC] at I;rcases I with I|I
 ·exact hs (h I)
 ·exact absurd I.symm fz
theorem dw.now(h:φ):dw m i φ:=λ_=>h
theorem dw.imp(h:dw m i φ)(hs:φ->ψ):dw m i ψ:=λI=>hs (h I)
theorem dw.none(h:m.testBit i=false):dw m i φ:=λI=>by rw[h] at I;cases I
theorem dw.get(h:dw m i φ){E:Nat}(hd:E&&& m=E)(K:E.testBit i=true):φ:=by
 apply h;rw[<-hd,wg,cQ] at K;exact K.2
theorem dw.done(h:dw m i φ)(hm:m.testBit i=true):φ:=h hm
end
end Go.Proofs.YtmgahjkopiaglaaGreat
