/- Lemmas, walks and contracts by which the statement is proved. -/
import Derived.Test.YtmgahjkopiaglaaGreatK29
set_option maxRecDepth 100000
set_option maxHeartbeats 16000000
set_option linter.all false
namespace Go.Proofs.YtmgahjkopiaglaaGreat
open Go.RowKit Go.Proofs.Tryz
theorem Cn{fn:Func}{p q s:Tmp}{t1:TypeId}(h:fn.results=#[.cell p t1,.tmp q,.tmp s]){tmps:Array Value}{P:Program}{w:World}{a1:Addr}{v1 v2 v4:Value}
 (F:tmps.getD p undef=.pointer (some a1))(R:tmps.getD q undef=v2)(h4:tmps.getD s undef=v4)
 (l1:(loadVar t1 a1).run P w=.ok v1 w):(results fn tmps).run P w=.ok (.tuple #[v1,v2,v4]) w:=by
 have e:∀ {p:Tmp} {a:Addr},tmps.getD p undef=.pointer (some a)->asAddr (tmps[p]?.getD undef)=pure a:=λhp=>by
  rw[show tmps[_]?.getD undef=.pointer (some _) by simpa using hp];rfl
 have e2:tmps[q]?.getD undef=v2:=by simpa using R
 have e4:tmps[s]?.getD undef=v4:=by simpa using h4
 simp only[results,h];simp[e F,e2,e4,iI,Result.andThen,l1]
def xY:List Value->Nat->List Value->List Value
 |C,_,[]=>C
 |C,o,v::l=>xY (C.set o v) (o+1) l
theorem G.UH{b:Nat}{T:TypeId}:∀(l:List Value)(o:Nat)(C:List Value)(w:World),G w b C.toArray T->G (cz w b o l) b (xY C o l).toArray T
 |[],_,_,_,h=>h
 |v::l,o,_,_,h=>G.UH l (o+1) _ _ (h.cC o v)
theorem G.SS{w:World}{g o n:Nat}{cs:Array Value}{T:TypeId}(h:G w g cs T)(hn:o+n<=cs.size):w.there g o n:=λj hj=>h.cR rfl (o+j) (by omega)|>λq=>by simpa using q
theorem dQ{b:Nat}(w:World)(o:Nat)(l:List Value):bH b w (cz w b o l):=
 have B:=aI (b:=b) (B:=0) (fH _) l o w (bI 0 w)
 ⟨B.os,B.tape,B.output,bR _ _ _,λ_ h=>bV h _ _ _⟩
theorem dm.QF{fr:Bool}{w:World}{S:Nat->Prop}{k:Nat}{A:Option Addr}{xs:List (Int×Int×Int)}{x:Int×Int×Int}(h:dm Y.aQ fr w S A xs)(D:xs[k]?=some x):
 ∃g o,A=some ⟨g,o,none⟩/\S g/\w.cell? ⟨g,o+k * 3,none⟩=some (.int .i64 x.1)/\w.cell? ⟨g,o+k * 3+1,none⟩=some (.int .i64 x.2.1)/\w.cell? ⟨g,o+k * 3+2,none⟩=some (.int .i64 x.2.2):=by
 obtain⟨g,o,cs,rfl,F,h3,h5⟩:=dm.at_ h D;have xG:cs=[.int .i64 x.1,.int .i64 x.2.1,.int .i64 x.2.2]:=h3;subst xG;exact⟨g,o,rfl,F,by simpa[Y.aQ] using(h5 0 _ rfl).1,by simpa[Y.aQ,fK] using(h5 1 _ rfl).1,by simpa[Y.aQ,fK] using(h5 2 _ rfl).1⟩
def UI(S:Nat->Prop)(w:World)(e0:Int)(x:Nd)(Z:List (Int×Fr))(y:Ending)(w':World):Prop:=
 Below w.1.size w w'/\∃X O,y=.returned (.tuple #[.agg X,O,e0])/\X.size=28/\X.all (·.oneCell')=true/\
  aK (e0=0->da Y.nd w' (EW S w.1.size w') (.agg X) x/\ay Y.Z false w' (EW S w.1.size w') O Z)
theorem Co{a:Ap}{x:Nd}{k e:Int}{h:Hu.Host}{l:List (Int×Int×Int)}(hr:V.jW a x.h k=(e,h,l))(he:e≠0):(V.jm a x k).1=e:=by
 unfold V.jm;rw[hr];split
 ·next q=>injection q with q _;exact absurd q he
 ·next q=>injection q with q _;exact q.symm
def V.fa(c:Int)(s:Int×Int×Int):Int×Fr:=(s.1,⟨0,c,s.2.1,s.2.2,[],0,0,0,[]⟩)
theorem Iy{a:Ap}{x:Nd}{k:Int}{h:Hu.Host}{l:List (Int×Int×Int)}(hr:V.jW a x.h k=(0,h,l)):V.jm a x k=(0,{x with h:=h},l.map (V.fa (if a.bF then 0 else x.u.aC))):=by
 unfold V.jm;rw[hr];rfl
theorem Eu(va vx:Value)(a:Ap)(x:Nd)(k:Int)(w:World)(S:Nat->Prop)(hS:∀b,S b->b<w.1.size)(ha:da Y.ap w S va a)(D:da Y.nd w S vx x)(hL:a.az.length<=1000)(hlen:x.h.Z.length=(Gr.outs a.az x.h.node).length)(hs:x.h.sized)(ct:∀r∈x.h.Z,r.length<=500)(gw:0<=x.h.steps/\x.h.steps<=1000000)(AD:∀p∈(Tb.at_ a.T x.h.node x.h.state).dg,p.eo.length<=1000/\∀s∈p.eo,0<=Gr.find a.az x.h.node s.1)(rK:(V.jW a x.h k).2.2.length<=1000):
 Calls prog 51 #[va,vx,.int .i64 k] w λy w'=>UI S w (V.jm a x k).1 (V.jm a x k).2.1 (V.jm a x k).2.2 y w':=by
 obtain⟨s,rfl,rfl,Ha,Hf,Hx,ho,-,-,rZ⟩:=wX 0 ha D;clear ha D;have hHO:=Hx.ho;obtain⟨C,hC⟩:=cJ (lA a (V.lR x) 0 (V.Jw 0) s);have sC:C.size=45:=by rw[<-hC];rfl
 have oC:C.all (·.oneCell')=true:=by rw[<-hC];simp[Value.oneCell']
 rw[hC] at rZ;have jr:(Value.agg (qE s x)).cells=qE s x:=rfl;have SR:(Gu s a).cells=#[.int .i64 a.n,.slice s.gA a.az.length s.gk,.slice s.TA a.T.length s.Tk,.bool a.bF]:=rfl;have sX:(qE s x).size=28:=rfl;have oX:=AL s x;have Wh:(qE s x)[13]?=some (.int .i64 x.u.aC):=rfl;obtain⟨cH,hcH⟩:=cJ (#[Value.int .i64 x.h.node,.int .i64 x.h.state,.int .i64 x.h.steps,.slice s.xU x.h.bD.length s.qh,.slice s.xV x.h.Z.length s.iZ]);have sH:cH.size=5:=by rw[<-hcH];rfl
 have cXH:(qE s x).extract 0 (0+5)=cH:=by rw[<-hcH];rfl
 have adD:da Y.ho w S (.agg cH) x.h:=by rw[<-hcH];exact hHO
 obtain⟨X,hX⟩:=cJ (qE s x);rw[hX] at jr rZ sX oX Wh cXH⊢;obtain⟨vA,qF⟩:=cJ (Gu s a);obtain⟨cA,o4⟩:=cJ (#[Value.int .i64 a.n,.slice s.gA a.az.length s.gk,.slice s.TA a.T.length s.Tk,.bool a.bF]);have eA:vA=.agg cA:=by rw[<-qF,<-o4]
 have sA:cA.size=4:=by rw[<-o4];rfl
 have cA3:cA[3]?=some (.bool a.bF):=by rw[<-o4];rfl
 have hAP:da Y.ap w S (.agg cA) a:=by rw[<-o4];exact Ha
 rw[qF] at rZ;rw[qF,o4] at SR;rw[qF];rw[eA] at rZ SR⊢;change aK _ at hC hX;replace ho:=U ho;replace Ha:=U Ha;replace Hf:=U Hf;replace Hx:=U Hx;clear qF o4 eA hHO hcH;obtain⟨⟨e0,h,aQ⟩,hr⟩:∃r,V.jW a x.h k=r:=⟨_,rfl⟩;have HR:=U hr;rw[hr] at rK;change aK _ at hS hlen gw AD;replace hs:=U hs;replace ct:=U ct;clear hr;dsimp only at rK;go_in;go_upto_region 1 with fail
 refine OB λW1 ba bx bg J=>?_;have zl:=bg.lt;go_wp2_with (first |refine wpList_load_mid rfl 27 (.tmp 3) rfl w.1.size 0 rfl cA.toList _ (ba.bO (n:=4) (by rw[<-sA];simp)) underlying27 rfl (by rw[eK,sA];kernel_rfl) ?_|refine wpList_load_mid rfl 109 (.tmp 18) rfl (w.1.size+1) 0 rfl cH.toList _ (bx.bO (n:=5) cXH) underlying109 rfl (by rw[eK,sH];kernel_rfl) ?_|refine wpList_load_mid rfl 121 (.tmp 4) rfl (w.1.size+1) 0 rfl X.toList _ (bx.bO (n:=28) (by rw[<-sX];simp)) underlying121 rfl (by rw[eK,sX];kernel_rfl) ?_);refine(Ng _ _ a x.h k W1 S (j2 hS J.size) (hAP.aE (dx hS J)) (adD.aE (dx hS J)) hL hlen.Z hs.Z ct.Z gw.Z AD.Z).mono ?_;rw[HR.Z];dsimp only;rintro _ w2 ⟨⟨u,v,rfl,hu,hv⟩,I⟩;obtain⟨B0,B1,k0,k1,rfl,Na,Ed⟩:=hu.ho;obtain⟨vA2,vk,rfl,_⟩:=id hv;have bv:=hv.bounds;replace hv:=U hv;clear hu;replace ba:=ba.next I;replace bx:=bx.next I;replace bg:=bg.next I;have ly:Below w.1.size w w2:=dW J I;have z2:=I.size;go_upto_region 2 with fail
 refine nw λW3 bh fu=>?_;replace ba:=ba.next fu;replace bx:=bx.next fu;replace bg:=bg.next fu;have fO:Below w.1.size w W3:=dW ly fu;have z3:=fu.size;have zh:=bh.lt;have HW3:=U fu;have hR:∀W,(Instr.build 121 #[]).run prog W=.ok (.agg kF) W:=yJ;by_cases he:e0=0
 case neg=>
  go_wp2_with (refine wpList_store_mid rfl 121 (.tmp 6) (.tmp 27) rfl (w.1.size+1+1) 0 kF rfl rfl bg.there (by kernel_rfl) ub ?_;rw[aH]);have Wg:=bg.cm kF rfl;refine bL (v:=.tuple #[.agg kF,(),e0]) (Cn results51 rfl rfl rfl (Wg.ju 121 _ underlying121 rfl (by kernel_rfl))) rfl ?_;refine⟨aI (by omega:w.1.size<=_) _ _ _ fO,kF,_,by rw[Co HR.Z he],rfl,ub,U λq=>?_⟩;rw[Co HR.Z he] at q;exact absurd q he
 subst he;clear hR;have hnp:=Iy HR.Z;replace hnp:=U hnp;obtain⟨cl,nN⟩:∃c:Int,(if a.bF then 0 else x.u.aC)=c:=⟨_,rfl⟩;rw[nN] at hnp;go_upto_region 4 with fail
 have k3:W3.cell? ⟨w.1.size,3,none⟩=some (.bool a.bF):=by rw[aD ba 3];exact cA3
 have k13:W3.cell? ⟨w.1.size+1,13,none⟩=some (.int .i64 x.u.aC):=by rw[aD bx 13];exact Wh
 have HBA:=U ba;have MG:=U bx;have HBG:=U bg;have HBH:=U bh;have Zj:=U fO;have HBD:=U rZ;clear ba bx bg bh fO rZ J ly I fu jr SR cA3 Wh;go_upto_if 31 with fail
 go_cut [12] (λu wx=>u=.int .i64 cl/\wx=W3)
 case first=>
  cases Es:a.bF
  case false=>
   rw[Es] at nN k3;have Wi:x.u.aC=cl:=by simpa using nN
   clear nN;go_wp2;go_meet;exact⟨by first |rfl |rw[Wi],rfl⟩
  case true=>
   rw[Es] at nN k3;have Wi:(0:Int)=cl:=by simpa using nN
   clear nN;go_wp2;go_meet;exact⟨by first |rfl |rw[Wi],rfl⟩
 case rest=>
 obtain⟨rfl,rfl⟩:=hcut;obtain⟨W,rfl⟩:∃W,W=wc:=⟨_,rfl⟩;clear k3 k13;have ba:=HBA.Z;have bx:=MG.Z;have bg:=HBG.Z;have bh:=HBH.Z;have fO:=Zj.Z;have rZ:=HBD.Z;go_upto_region 8 with(first |refine wpList_load_mid rfl 27 (.tmp 3) rfl w.1.size 0 rfl cA.toList _ (ba.bO (n:=4) (by rw[<-sA];simp)) underlying27 rfl (by rw[eK,sA];kernel_rfl) ?_|refine wpList_load_mid rfl 121 (.tmp 4) rfl (w.1.size+1) 0 rfl X.toList _ (bx.bO (n:=28) (by rw[<-sX];simp)) underlying121 rfl (by rw[eK,sX];kernel_rfl) ?_|refine wpList_build rfl 183 _ rfl _ _ rZ (by go_simp) ?_|(refine wpList_store_mid rfl 183 (.tmp 13) (.tmp 37) rfl W.1.size 0 C rfl rfl ((G.new W _ _).cR (by rw[sC];rfl)) (by rw[sC];kernel_rfl) oC ?_;rw[aH]))
 refine bK λW4 hW=>?_;have bw:G W4 W.1.size C 183:=G.eqv hW ((G.new W _ _).cm C (by rw[sC];rfl));have ob:Below W.1.size W W4:=Below.eqv hW (aI bE _ _ _ (cT.alloc bE _));clear hW rZ ba bx HBA MG HBD HBH HBG Zj;replace bg:=bg.next ob;replace bh:=bh.next ob;have Gm:=dW fO ob;have z4:=ob.size;have zw:=bw.lt;obtain⟨q,hq⟩:=cJ W.1.size;rw[hq] at bw zh z3 z4 zw ob⊢;have OO:=ch bh;go_upto_region 9 with(refine wpList_store_mid rfl 109 (.tmp 40) (.tmp 38) rfl q 4 #[h.node,h.state,h.steps,.slice B0 h.bD.length k0,.slice B1 h.Z.length k1] rfl rfl (bw.SS (n:=5) (by rw[sC];omega)) (by kernel_rfl) (by simp[Value.oneCell']) ?_;rw[aH])
 clear OO;refine bK λW5 hW=>?_;have cW:bH q W4 W5:=by rw[<-hW];exact dQ _ _ _
 have bw5:G W5 q (xY C.toList 4 [h.node,h.state,h.steps,.slice B0 h.bD.length k0,.slice B1 h.Z.length k1]).toArray 183:=G.eqv hW (G.UH _ 4 C.toList _ bw);have hC5:(xY C.toList 4 [h.node,h.state,h.steps,.slice B0 h.bD.length k0,.slice B1 h.Z.length k1]).toArray=lA a {V.lR x with x:={x with h:=h}} 0 (V.Jw 0) {s with xU:=B0,qh:=k0,xV:=B1,iZ:=k1}:=by rw[<-hC.Z];kernel_rfl
 rw[hC5] at bw5;clear hW hC5 bw;replace bg:=bg.only cW (by omega);have tV:Below w.1.size w W5:=⟨cW.os.trans Gm.os,cW.tape.trans Gm.tape,cW.output.trans Gm.output,by rw[cW.size];exact Gm.size,λb k=>(cW.block b (by omega)).trans (Gm.block b k)⟩;have vz:∀b,b<w2.1.size->W5.1[b]?=w2.1[b]?:=λb k=>(cW.block b (by omega)).trans ((ob.block b (by omega)).trans (HW3.block b k));have z5:=cW.size;clear cW;obtain⟨x1,iP⟩:∃y:Wk,({V.lR x with x:={x with h:=h}}:Wk)=y:=⟨_,rfl⟩;obtain⟨s1,j8⟩:∃y:WA,({s with xU:=B0,qh:=k0,xV:=B1,iZ:=k1}:WA)=y:=⟨_,rfl⟩;have H:eW W5 W5.1.size q (λb=>S b\/bO W1.1.size w2.1.size b) a x1 (V.Jw 0) s1:=by
  have Q:∀b,S b->W5.1[b]?=w.1[b]?:=λb k=>tV.block b (hS b k);have hF:=Hx.move (w':=W5) (S':=WS (λb=>S b\/bO W1.1.size w2.1.size b) W5.1.size W5 (.slice none 0 0)) Q λb k=> .inl (.inl k);rw[<-iP,<-j8];refine⟨bE,by omega,λb k=>k.elim (λk=>⟨by have:=hS.Z b k;omega,by have:=hS.Z b k;omega⟩) λk=>⟨by have:=bO.hi k;omega,by have:=bO.hi k;omega⟩,(Ha.aE Q).aF λb k=> .inl k,(Hf.aE Q).aF λb k=> .inl k,?_,?_⟩;all_goals
   have e:gW ({V.lR x with x:={x with h:=h}}:Wk) {s with xU:=B0,qh:=k0,xV:=B1,iZ:=k1}=.slice none 0 0:=ho.Z;rw[e]
  ·exact⟨da.Jo (p:=h) ((Na.aE λb k=>vz b (bO.hi k)).aF λb k=> .inl (.inr k)) ((Ed.aE λb k=>vz b (bO.hi k)).aF λb k=> .inl (.inr k)),hF.mr,hF.hu,hF.tr,hF.go,hF.se,hF.ep,hF.eq⟩
  ·exact cj.nil _ _ _ _ _
 have AE:x1.Z=[]:=by rw[<-iP];rfl
 have XS:x1.x={x with h:=h}:=by rw[<-iP]
 rw[iP,j8] at bw5;have HV5:aK (ay Y.aQ false W5 (bO W1.1.size w2.1.size) (.slice vA2 aQ.length vk) aQ):=U (hv.aE λb k=>vz b (bO.hi k));change aK _ at AE XS;clear iP j8 vz;have hK:=Kept.refl W5.1.size q W5;go_wp2;go_loopg [15,43] aQ.length (λq' _ i wr=>∃(j:Nat)(oA:Option Addr)(ok:Nat),i=.int .i64 (j:Int)/\j<=aQ.length/\q'=aQ.length-j/\G wr q (lA a {x1 with Z:=(aQ.take j).map (V.fa cl)} 0 (V.Jw 0) {s1 with s7:=oA,ta:=ok}) 183/\eW wr W5.1.size q (λb=>S b\/bO W1.1.size w2.1.size b) a {x1 with Z:=(aQ.take j).map (V.fa cl)} (V.Jw 0) {s1 with s7:=oA,ta:=ok}/\Kept W5.1.size q W5 wr)
 case atStart=>
  refine⟨0,s1.s7,s1.ta,rfl,by omega,by omega,?_,?_,hK⟩;all_goals
   have e:({x1 with Z:=(aQ.take 0).map (V.fa cl)}:Wk)=x1:=by rw[List.take_zero];show Wk.mk _ [] _ _=x1;rw[<-AE.Z]
   rw[e]
  ·exact bw5
  ·exact H
 case round=>
  clear bw5 H hK;obtain⟨j,oA,ok,rfl,hj,Q,bk,H,hK⟩:=hrel;change aK _ at Q;obtain⟨y,hy⟩:∃y:Wk,({x1 with Z:=(aQ.take j).map (V.fa cl)}:Wk)=y:=⟨_,rfl⟩;obtain⟨t,ht⟩:∃t:WA,({s1 with s7:=oA,ta:=ok}:WA)=t:=⟨_,rfl⟩;rw[hy,ht] at bk H;have PI:y.Z=(aQ.take j).map (V.fa cl):=by rw[<-hy]
  change aK _ at hy ht PI;by_cases bY:j<aQ.length
  case pos=>
   obtain⟨u,hu⟩:=Pc.get_at bY;obtain⟨gu,ou,rfl,hgu,c0,c1,c2⟩:=(HV5.Z.arr.aE λb k=>hK.block b (by have:=bO.hi k;omega) (by have:=bO.hi k;omega)).QF hu;have kH:=Pc.de hu;have gg:gu<wr.1.size:=by have:=bO.hi hgu;have:=hK.size;omega
   replace kH:=U kH;replace hu:=U hu;have hbm:∀W,(Instr.build 149 #[(1,.int .i64 cl),(2,.agg #[u.2.1,u.2.2])]).run prog W=.ok (.agg #[aP,cl,u.2.1,u.2.2,(),aP,aP,aP,()]) W:=λW=>lG W _ _ _ (by kernel_rfl);go_upto_region 12 with fail
   clear c0 c1 c2 gg;refine nw λW6 bs I=>?_;replace hK:=hK.next I H.sz;replace bk:=bk.next I;replace H:=H.next I;have OO:=ch bs;go_wp2_with (refine wpList_build rfl 149 _ rfl _ _ hbm (by go_simp) ?_);clear OO;refine(Il W5.1.size q (λb=>S b\/bO W1.1.size w2.1.size b) a y 0 (V.Jw 0) t u.1 ⟨0,cl,u.2.1,u.2.2,[],0,0,0,[]⟩ none none 0 0 W6 H bk ay.none_ ay.none_ (by rw[PI.Z];simp;omega)).mono ?_;rintro _ w7 ⟨rfl,xt,-,A,k9,-,b3,i3⟩;go_wp2;go_roundg (aQ.length-(j+1))
   case rel=>
    have NG:({y with Z:=y.Z++[(u.1,⟨0,cl,u.2.1,u.2.2,[],0,0,0,[]⟩)]}:Wk)={x1 with Z:=(aQ.take (j+1)).map (V.fa cl)}:=by rw[<-hy.Z,kH.Z,jP];rfl
    have htx:({t with s7:=A,ta:=k9}:WA)={s1 with s7:=A,ta:=k9}:=by rw[<-ht.Z]
    rw[NG,htx] at b3 i3;exact⟨j+1,A,k9,by simp,by omega,rfl,b3,i3,hK.trans xt⟩
   case measure=>have:=Q.Z;omega
  obtain rfl:j=aQ.length:=by omega
  rw[iw] at PI;have K:=H.end_;have hyx:y.x={x with h:=h}:=by rw[<-hy.Z];exact XS.Z
  obtain⟨ab,hD⟩:=cJ (lA a y 0 (V.Jw 0) t);have cX:ab.extract 4 (4+28)=qE t y.x:=by rw[<-hD];kernel_rfl
  obtain⟨pA,pN,pK,hO⟩:∃A n k,gW y t=.slice A n k:=⟨_,_,_,rfl⟩;have cO:ab[32]?=some (.slice pA pN pK):=by rw[<-hD,<-hO];kernel_rfl
  have oY:=AL t y.x;have sY:(qE t y.x).size=28:=rfl;rw[hD] at bk;have AA:=K.nd;have Gv:=K.ou;rw[PI.Z,hO] at Gv;rw[hyx] at AA cX oY sY;obtain⟨ae,hY⟩:∃ae,qE t {x with h:=h}=ae:=⟨_,rfl⟩;rw[hY] at AA cX oY sY;replace bg:G wr _ _ _:=(hK.block _ (by omega) (by omega)).trans bg;replace AA:=U AA;replace Gv:=U Gv;clear K hD hO hY hyx H;have zk:=hK.size;go_upto_region 14 with fail
  refine rg 0 λW8 I K=>?_;replace bk:=bk.next I;replace bg:=bg.next I;have z8:=I.size;have c32:=(bk.open_).1 32;rw[cO] at c32;clear K;refine aG [0,1] 5 ?_;go_wp2_with (refine wpList_load_mid rfl 121 (.tmp 55) rfl q 4 rfl ae.toList _ (bk.bO cX) underlying121 rfl (by rw[eK,sY];kernel_rfl) ?_);refine tJ 2 ?_;have qZ:∀ {tmps:Array Value},tmps.getD 6 undef=.pointer (some ⟨w.1.size+1+1,0,none⟩)->tmps.getD 7 undef=.slice pA pN pK->tmps.getD 8 undef=.int .i64 0->bodyPost prog Tryz.f51 (λy w'=>UI S w (V.jm a x k).1 (V.jm a x k).2.1 (V.jm a x k).2.2 y w') .ret ⟨tmps,[]⟩ (cz W8 (w.1.size+1+1) 0 ae.toList):=by
   intro tmps h6 h7 h8;have Wg:=bg.cm ae (by rw[sY];rfl);refine bL (v:=.tuple #[.agg ae,.slice pA pN pK,aP]) (Cn results51 h6 h7 h8 (Wg.ju 121 _ underlying121 rfl (by rw[sY];kernel_rfl))) rfl ?_;have Gn:Below w.1.size w W8:=⟨I.os.trans (hK.os.trans tV.os),I.tape.trans (hK.tape.trans tV.tape),I.output.trans (hK.output.trans tV.output),by omega,λb k=>(I.block b (by omega)).trans ((hK.block b (by omega) (by omega)).trans (tV.block b k))⟩;rw[hnp.Z];have hm:∀b,EW (λb=>S b\/bO W1.1.size w2.1.size b) W5.1.size wr b->(cz W8 (w.1.size+1+1) 0 ae.toList).1[b]?=wr.1[b]?:=λb k=>by
    have n1:b≠w.1.size+1+1:=k.elim (λk=>k.elim (λk=>by have:=hS.Z b k;omega) λk=>by have:=bO.lo k;omega) λk=>by omega
    have n2:b<wr.1.size:=k.elim (λk=>k.elim (λk=>by have:=hS.Z b k;omega) λk=>by have:=bO.hi k;omega) λk=>k.2;rw[bV n1];exact I.block b n2
   have hw:∀b,EW (λb=>S b\/bO W1.1.size w2.1.size b) W5.1.size wr b->EW S w.1.size (cz W8 (w.1.size+1+1) 0 ae.toList) b:=λb k=>by
    have e:(cz W8 (w.1.size+1+1) 0 ae.toList).1.size=W8.1.size:=bR _ _ _;exact k.elim (λk=>k.imp id λk=>⟨by have:=bO.lo k;omega,by have:=bO.hi k;omega⟩) λk=> .inr ⟨by omega,by have:=k.2;omega⟩
   exact⟨aI (by omega:w.1.size<=_) _ _ _ Gn,ae,_,rfl,sY,oY,U λ_=>⟨(AA.aE hm).aF hw,(Gv.aE hm).aF hw⟩⟩
  refine tW 3 4 ?_ ?_
  ·go_wp2;try refine cD (λq=>absurd q (by decide)) ?_
   refine aG [4,5,6] 0 ?_;go_wp2_with (refine wpList_store_mid rfl 121 (.tmp 6) (.tmp 56) rfl (w.1.size+1+1) 0 ae rfl rfl (bg.cR sY.symm) (by rw[sY];kernel_rfl) oY ?_;rw[aH]);refine eJ ?_;go_wp2_with fail;exact qZ rfl rfl rfl
  ·refine wpList_store_mid rfl 121 (.tmp 6) (.tmp 56) rfl (w.1.size+1+1) 0 ae rfl rfl (bg.cR sY.symm) (by rw[sY];kernel_rfl) oY ?_;rw[aH];have ai8:(cz W8 (w.1.size+1+1) 0 ae.toList).cell? ⟨q,32,none⟩=some (.slice pA pN pK):=((bk.gH (by omega) _).open_).1 32 |>.trans cO
   go_wp2;try refine cD (λq=>absurd q (by decide)) ?_
   refine aG [3,5,6] 0 ?_;go_wp2;refine eJ ?_;go_wp2_with fail;exact qZ rfl rfl rfl
theorem Cp:∀(l:List Value)(o:Nat)(A B:List Value),xY (A++B) (A.length+o) l=A++xY B o l
 |[],_,_,_=>rfl
 |v::l,o,A,B=>by rw[xY,xY,ER _ _ (Nat.le_add_right _ _),vQ,fK,Cp l]
theorem Iz:∀(l qd post:List Value),qd.length=l.length->xY (qd++post) 0 l=l++post
 |[],qd,post,h=>by rw[ib h];rfl
 |v::l,[],post,h=>by cases h
 |v::l,u::qd,post,h=>by
  have:=Cp l 0 [v] (qd++post);simp only[xY,nU,dK];simpa[Iz l qd post (by simpa using h)] using this
section
variable{α:Type}{r:Y α}{fr:Bool}{w:World}{S:Nat->Prop}
theorem Y.Mi:∀ {xs:List α} {cells cs:List Value} {i:Nat} {y:α},r.all fr w S cells xs->i<xs.length->r.is fr w S cs y->r.all fr w S (xY cells (i * r.size) cs) (xs.set i y)
 |[],_,_,_,_,_,hi,_=>absurd hi (jO _)
 |x::xs,cells,cs,0,y,h,_,hy=>by
  obtain⟨c0,rest,rfl,h0,F⟩:=h;rw[Nat.zero_mul,Iz cs c0 rest (by rw[r.len h0,r.len hy])];exact⟨cs,rest,rfl,hy,F⟩
 |x::xs,cells,cs,i+1,y,h,hi,hy=>by
  obtain⟨c0,rest,rfl,h0,F⟩:=h;rw[nV,Nat.add_comm,<-r.len h0,Cp];exact⟨c0,_,rfl,h0,by rw[r.len h0];exact Y.Mi F (by simpa using hi) hy⟩
end
theorem Ev{B:Nat}{e:TypeId}{size g n cap:Nat}:∀(l:List Value)(o:Nat)(w:World)(xs:List Value),w.ownsRow B e size (.slice g n cap) n xs->(cz w g o l).ownsRow B e size (.slice g n cap) n (xY xs o l)
 |[],_,_,_,h=>h
 |v::l,o,_,_,h=>Ev l (o+1) _ _ (h.stored o v).1
section
variable{α:Type}{r:Y α}{e:TypeId}{B:Nat}{w:World}{S:Nat->Prop}{v:Value}{xs:List α}{i:Nat}
theorem cj.get{x:α}(h:cj r e B w S v xs)(D:xs[i]?=some x):∃g c cs,v=.slice (some ⟨g,0,none⟩) xs.length c/\r.is false w S cs x/\cs.length=r.size/\w.rangeAt g (i * r.size) cs/\w.there g (i * r.size) r.size:=by
 obtain⟨cells,F,R,h3⟩:=h;have hi:i<xs.length:=(eD.1 D).1;obtain⟨cs,q1,q2⟩:=Y.O6 R D;rcases F.2 with⟨_,h0⟩|⟨g,cap,cur,rfl,_⟩
 ·omega
 have hc:w.rangeAt g (i * r.size) cs:=λj u hu=>by
  have hj:j<cs.length:=(eD.1 hu).1;rw[r.len q1] at hj;have:(i+1) * r.size<=xs.length * r.size:=vX _ hi;rw[nV] at this;rw[F.cellAt _ (by omega)];exact q2 j u hu
 exact⟨g,cap,cs,rfl,q1,r.len q1,hc,λj hj=>⟨by rw[hc j _ (eu (by rw[r.len q1];exact hj))];rfl,F.frozenAt _⟩⟩
theorem cj.put{y:α}{cs:List Value}{g c:Nat}(h:cj r e B w S v xs)(hv:v=.slice g xs.length c)(hi:i<xs.length)(hy:r.is false w S cs y):cj r e B (cz w g (i * r.size) cs) S v (xs.set i y):=by
 obtain⟨cells,F,R,h3⟩:=h;subst hv;refine⟨xY cells (i * r.size) cs,by rw[fG];exact Ev _ _ _ _ F,Y.ej (w:=w) (λb q=>bV (λe=>h3 g rfl (by rw[<-e];exact q)) _ _ _) (Y.Mi R hi hy),h3⟩
theorem cj.only{b:Nat}{w':World}(h:cj r e B w S v xs)(hs:bH b w w')(F:¬S b)(R:v.ownBlock≠some b):cj r e B w' S v xs:=
 h.aE λk q=>hs.block k λe=>q.elim (λq=>F (e▸q)) λq=>R (e▸q)
end
def Y.la:Y La where
 size:=3
 pos:=by omega
 is fr w S cs a:=∃v,cs=[.bool a.bF,.int .i64 a.cap,v]/\ay Y.frame fr w S v a.l
 len h:=by obtain⟨v,rfl,_⟩:=h;rfl
 aE h Q:=by obtain⟨v,rfl,h⟩:=h;exact⟨v,rfl,h.aE Q⟩
 aF h Q:=by obtain⟨v,rfl,h⟩:=h;exact⟨v,rfl,h.aF Q⟩
 soft h:=by obtain⟨v,rfl,h⟩:=h;exact⟨v,rfl,h.soft⟩
 one h:=by
  obtain⟨_,rfl,⟨_,_,rfl,_⟩⟩:=h;intro u hu;simp at hu;rcases hu with rfl |rfl |rfl<;>rfl
def Y.seven:Y Unit where
 size:=7
 pos:=by omega
 is _ _ _ cs _:=∃a b c d e f g:Int,cs=[.int .i64 a,.int .i64 b,.int .i64 c,.int .i64 d,.int .i64 e,.int .i64 f,.int .i64 g]
 len h:=by obtain⟨a,b,c,d,e,f,g,rfl⟩:=h;rfl
 aE h _:=h
 aF h _:=h
 soft h:=h
 one h:=by obtain⟨a,b,c,d,e,f,g,rfl⟩:=h;intro u hu;simp at hu;rcases hu with rfl |rfl |rfl |rfl |rfl |rfl |rfl<;>rfl
theorem kz.of{w:World}{S:Nat->Prop}{cs:List Value}{a:La}(h:Y.la.is false w S cs a):kz w S (.agg cs.toArray) a:=by
 obtain⟨v,rfl,h⟩:=h;obtain⟨A,c,rfl,_⟩:=id h;exact⟨A,c,rfl,h⟩
theorem nt.of{w:World}{S:Nat->Prop}{cs:List Value}{f:Fr}(h:Y.frame.is false w S cs f):nt false w S (.agg cs.toArray) f:=by
 obtain⟨u,v,rfl,h,R⟩:=h;obtain⟨A,c,rfl,_⟩:=id h;obtain⟨A2,c2,rfl,_⟩:=id R;exact⟨A,A2,c,c2,rfl,h,R⟩
theorem da.Mj{w:World}{S:Nat->Prop}{X:Array Value}{x:Nd}(h:da Y.nd w S (.agg X) x):Y.nd.is false w S X.toList x:=by
 obtain⟨cs,e,h⟩:=h;injection e with e
 subst e;exact h
structure NA where
 nb:Nat
 (vA vP vN:Value)
 (gA TA:Option Addr)
 (gk Tk:Nat)
 ex:Nat->Prop
def DK(w:World)(s:NA):Nat->Prop:=λb=>b<w.1.size/\b≠s.nb/\s.vA.ownBlock≠some b/\s.vP.ownBlock≠some b/\s.vN.ownBlock≠some b
def DS(w:World)(s:NA):Nat->Prop:=λb=>DK w s b/\¬s.ex b
abbrev SU(a:Ap)(t:Nt)(s:NA):Array Value:=#[s.vA,s.vP,.int .i64 a.n,.slice s.gA a.az.length s.gk,.slice s.TA a.T.length s.Tk,.bool a.bF,s.vN,.int .i64 t.aC,.int .i64 t.root,.int .i64 t.dp]
structure bU(w:World)(lo:Nat)(a:Ap)(t:Nt)(s:NA):Prop where
 box:G w s.nb (SU a t s) 102
 lt:lo<=s.nb
 zN:∀b,s.ex b->b<w.1.size
 rA:cj Y.la 105 lo w (DS w s) s.vA t.aX
 rP:cj Y.seven 106 lo w (λ_=>False) s.vP (List.replicate t.aX.length ())
 rN:cj Y.nd 121 lo w (DS w s) s.vN t.nodes
 ap:da Y.ap w (DS w s) (.agg #[a.n,.slice s.gA a.az.length s.gk,.slice s.TA a.T.length s.Tk,a.bF]) a
section
variable{w w':World}{lo:Nat}{a:Ap}{t:Nt}{s:NA}
theorem DS.lt{b:Nat}(h:DS w s b):b<w.1.size:=h.1.1
theorem DS.ne{b g:Nat}(h:DS w s b)(hg:s.ex g):b≠g:=λe=>h.2 (e▸hg)
theorem DK.up(hs:w.1.size<=w'.1.size):∀b,DK w s b->DK w' s b:=λ_ q=>⟨aU q.1 hs,q.2⟩
theorem DS.up(hs:w.1.size<=w'.1.size):∀b,DS w s b->DS w' s b:=λb q=>⟨DK.up hs b q.1,q.2⟩
theorem bU.dA(h:bU w lo a t s){b:Nat}(e:s.vA.ownBlock=some b):lo<=b/\b<w.1.size/\b≠s.nb/\s.vP.ownBlock≠some b/\s.vN.ownBlock≠some b:=by
 obtain⟨c,hc⟩:=h.rA.type e;exact⟨(h.rA.lt b e).1,(h.rA.lt b e).2,eH hc h.box (by decide),λq=>by obtain⟨d,hd⟩:=h.rP.type q;exact eH hc hd (by decide) rfl,λq=>by obtain⟨d,hd⟩:=h.rN.type q;exact eH hc hd (by decide) rfl⟩
theorem bU.dP(h:bU w lo a t s){b:Nat}(e:s.vP.ownBlock=some b):lo<=b/\b<w.1.size/\b≠s.nb/\s.vA.ownBlock≠some b/\s.vN.ownBlock≠some b:=by
 obtain⟨c,hc⟩:=h.rP.type e;exact⟨(h.rP.lt b e).1,(h.rP.lt b e).2,eH hc h.box (by decide),λq=>by obtain⟨d,hd⟩:=h.rA.type q;exact eH hc hd (by decide) rfl,λq=>by obtain⟨d,hd⟩:=h.rN.type q;exact eH hc hd (by decide) rfl⟩
theorem bU.dN(h:bU w lo a t s){b:Nat}(e:s.vN.ownBlock=some b):lo<=b/\b<w.1.size/\b≠s.nb/\s.vA.ownBlock≠some b/\s.vP.ownBlock≠some b:=by
 obtain⟨c,hc⟩:=h.rN.type e;exact⟨(h.rN.lt b e).1,(h.rN.lt b e).2,eH hc h.box (by decide),λq=>by obtain⟨d,hd⟩:=h.rA.type q;exact eH hc hd (by decide) rfl,λq=>by obtain⟨d,hd⟩:=h.rP.type q;exact eH hc hd (by decide) rfl⟩
theorem bU.next(h:bU w lo a t s)(I:aY w w'):bU w' lo a t s:=
 ⟨h.box.next I,h.lt,λb q=>aU (h.zN b q) I.size,(h.rA.next I λ_ q=>q.lt).aF (DS.up I.size) λb e q=>q.1.2.2.1 e,h.rP.next I λ_ q=>q.elim,(h.rN.next I λ_ q=>q.lt).aF (DS.up I.size) λb e q=>q.1.2.2.2.2 e,(h.ap.aE λb q=>I.block b q.lt).aF (DS.up I.size)⟩
instance:Nx w w' (bU w lo a t s) (bU w' lo a t s):=⟨λq p=>p.next q⟩
theorem bU.ds{b:Nat}(hs:bH b w w')(I:b=s.nb\/s.vA.ownBlock=some b\/s.vP.ownBlock=some b\/s.vN.ownBlock=some b):∀k,DK w s k->w'.1[k]?=w.1[k]?:=λk q=>hs.block k λe=>by
 subst e;rcases I with h|h|h|h
 ·exact q.2.1 h
 ·exact q.2.2.1 h
 ·exact q.2.2.2.1 h
 ·exact q.2.2.2.2 h
theorem DS.eq(hs:w'.1.size=w.1.size):∀b,DS w s b->DS w' s b:=DS.up (ca hs.symm)
theorem bU.num(h:bU w lo a t s){t2:Nt}(e1:t2.aX=t.aX)(e2:t2.nodes=t.nodes)(hs:bH s.nb w w')(I:G w' s.nb (SU a t2 s) 102):bU w' lo a t2 s:=
 have ab:=bU.ds (s:=s) hs (.inl rfl)
 ⟨I,h.lt,λb q=>by rw[hs.size];exact h.zN b q,by rw[e1];exact(h.rA.only hs (λq=>q.1.2.1 rfl) λe=>(h.dA e).2.2.1 rfl).aF (DS.eq hs.size) λb e q=>q.1.2.2.1 e,by rw[e1];exact h.rP.only hs id λe=>(h.dP e).2.2.1 rfl,
  by rw[e2];exact(h.rN.only hs (λq=>q.1.2.1 rfl) λe=>(h.dN e).2.2.1 rfl).aF (DS.eq hs.size) λb e q=>q.1.2.2.2.2 e,(h.ap.aE λb q=>ab b q.1).aF (DS.eq hs.size)⟩
theorem bU.Zk(h:bU w lo a t s){g c i:Nat}{cs:List Value}{x:La}(hv:s.vA=.slice g t.aX.length c)(hi:i<t.aX.length)(D:Y.la.is false w (DS w s) cs x):bU (cz w g (i * 3) cs) lo a {t with aX:=t.aX.set i x} s:=
 have e:s.vA.ownBlock=some g:=by rw[hv];rfl
 have hs:=dQ (b:=g) w (i * 3) cs;have n:=h.dA e
 ⟨h.box.only hs (fT n.2.2.1),h.lt,λb q=>by rw[hs.size];exact h.zN b q,(h.rA.put hv hi D).aF (DS.eq hs.size) λb e q=>q.1.2.2.1 e,by rw[fG];exact h.rP.only hs id n.2.2.2.1,(h.rN.only hs (λq=>q.1.2.2.1 e) n.2.2.2.2).aF (DS.eq hs.size) λb e q=>q.1.2.2.2.2 e,(h.ap.aE (λb q=>bU.ds hs (.inr (.inl e)) b q.1)).aF (DS.eq hs.size)⟩
theorem bU.Wj(h:bU w lo a t s){g c i:Nat}{cs:List Value}{x:Nd}(hv:s.vN=.slice g t.nodes.length c)(hi:i<t.nodes.length)(D:Y.nd.is false w (DS w s) cs x):bU (cz w g (i * 28) cs) lo a {t with nodes:=t.nodes.set i x} s:=
 have e:s.vN.ownBlock=some g:=by rw[hv];rfl
 have hs:=dQ (b:=g) w (i * 28) cs;have n:=h.dN e
 ⟨h.box.only hs (fT n.2.2.1),h.lt,λb q=>by rw[hs.size];exact h.zN b q,(h.rA.only hs (λq=>q.1.2.2.2.2 e) n.2.2.2.1).aF (DS.eq hs.size) λb e q=>q.1.2.2.1 e,h.rP.only hs id n.2.2.2.2,(h.rN.put hv hi D).aF (DS.eq hs.size) λb e q=>q.1.2.2.2.2 e,(h.ap.aE (λb q=>bU.ds hs (.inr (.inr (.inr e))) b q.1)).aF (DS.eq hs.size)⟩
theorem bU.OT(h:bU w lo a t s){g:Nat}(hs:bH g w w')(hg:s.ex g)(hd:DK w s g):bU w' lo a t s:=
 ⟨h.box.only hs (fT hd.2.1),h.lt,λb q=>by rw[hs.size];exact h.zN b q,(h.rA.only hs (λq=>q.2 hg) hd.2.2.1).aF (DS.eq hs.size) λb e q=>q.1.2.2.1 e,h.rP.only hs id hd.2.2.2.1,(h.rN.only hs (λq=>q.2 hg) hd.2.2.2.2).aF (DS.eq hs.size) λb e q=>q.1.2.2.2.2 e,(h.ap.aE λb q=>hs.block b (q.ne hg)).aF (DS.eq hs.size)⟩
theorem bU.lS(h:bU w lo a t s)(I:aY w w')(E:Nat->Prop)(K:∀b,E b->w.1.size<=b/\b<w'.1.size):bU w' lo a t {s with ex:=λb=>s.ex b\/E b}:=
 have ai:∀b,DS w s b->DS w' {s with ex:=λb=>s.ex b\/E b} b:=λb q=>⟨DK.up I.size b q.1,λr=>r.elim q.2 λr=>by have:=q.lt;have:=K b r;omega⟩
 ⟨h.box.next I,h.lt,λb q=>q.elim (λq=>aU (h.zN b q) I.size) λq=>(K b q).2,(h.rA.next I λ_ q=>q.lt).aF ai λb e q=>q.1.2.2.1 e,h.rP.next I λ_ q=>q.elim,(h.rN.next I λ_ q=>q.lt).aF ai λb e q=>q.1.2.2.2.2 e,(h.ap.aE λb q=>I.block b q.lt).aF ai⟩
theorem bU.drop{E:Nat->Prop}(h:bU w lo a t {s with ex:=λb=>s.ex b\/E b}):bU w lo a t s:=
 have ai:∀b,DS w {s with ex:=λb=>s.ex b\/E b} b->DS w s b:=λb q=>⟨q.1,λr=>q.2 (.inl r)⟩
 ⟨h.box,h.lt,λb q=>h.zN b (.inl q),h.rA.aF ai λb e q=>q.1.2.2.1 e,h.rP,h.rN.aF ai λb e q=>q.1.2.2.2.2 e,h.ap.aF ai⟩
end
end Go.Proofs.YtmgahjkopiaglaaGreat
