/- Lemmas, walks and contracts by which the statement is proved. -/
import Derived.Test.YtmgahjkopiaglaaGreatK30
set_option maxRecDepth 100000
set_option maxHeartbeats 16000000
set_option linter.all false
namespace Go.Proofs.YtmgahjkopiaglaaGreat
open Go.RowKit Go.Proofs.Tryz
structure cM(s:NA)(w w':World):Prop where
 os:w'.os=w.os
 tape:w'.tape=w.tape
 output:w'.output=w.output
 size:w.1.size<=w'.1.size
 block:∀b,DK w s b->w'.1[b]?=w.1[b]?
section
variable{s:NA}{w w' qp:World}{lo:Nat}{a:Ap}{t:Nt}
theorem cM.refl(s:NA)(w:World):cM s w w:=⟨rfl,rfl,rfl,bE,λ_ _=>rfl⟩
theorem cM.trans(h:cM s w w')(h':cM s w' qp):cM s w qp:=⟨h'.os.trans h.os,h'.tape.trans h.tape,h'.output.trans h.output,bT h.size h'.size,λb q=>(h'.block b (DK.up h.size b q)).trans (h.block b q)⟩
theorem cM.of(h:aY w w'):cM s w w':=⟨h.os,h.tape,h.output,h.size,λb q=>h.block b q.1⟩
theorem cM.only{b:Nat}(hs:bH b w w')(I:b=s.nb\/s.vA.ownBlock=some b\/s.vP.ownBlock=some b\/s.vN.ownBlock=some b):cM s w w':=⟨hs.os,hs.tape,hs.output,ca hs.size.symm,bU.ds hs I⟩
theorem bU.eP{w0:World}(hN:bU w0 lo a t s){b:Nat}(F:w0.1.size<=b)(R:b<w.1.size):DK w s b:=⟨R,by have:=hN.box.lt;omega,λe=>by have:=(hN.dA e).2.1;omega,λe=>by have:=(hN.dP e).2.1;omega,λe=>by have:=(hN.dN e).2.1;omega⟩
theorem bU.wY{w0:World}(hN:bU w0 lo a t s){b:Nat}(F:w0.1.size<=b)(R:b<w.1.size):DS w s b:=⟨hN.eP F R,λq=>by have:=hN.zN b q;omega⟩
theorem cM.ds(h:cM s w w'):∀b,DS w s b->w'.1[b]?=w.1[b]?:=λb q=>h.block b q.1
theorem cM.bx{b:Nat}{cs:Array Value}{T:TypeId}(h:cM s w w')(I:G w b cs T)(hd:DK w s b):G w' b cs T:=(h.block b hd).trans I
end
theorem K8{x:La}(h:La.right x=true):x.l.length<=25:=by
 unfold La.right La.roomy at h;simp only[cQ,dC] at h;obtain⟨F,R,h3,h4,h5⟩:=h;omega
theorem NQ(ls:List La)(o:Int×Fr):(V.lj ls o).length=ls.length:=by unfold V.lj;split<;>simp
theorem yL:∀(Z:List (Int×Fr))(ls:List La),(V.du ls Z).length=ls.length
 |[],_=>rfl
 |o::Z,ls=>(yL Z _).trans (NQ ls o)
theorem IA{x:La}{f:Fr}(h:La.kx x f=0):Fr.right f=true/\La.push x f=La.more x f/\La.right (La.more x f)=true:=by
 unfold La.kx at h;split at h
 ·next F=>
  split at h
  ·next R=>exact⟨F,by unfold La.push;rw[F,R];rfl,R⟩
  ·cases h
 ·cases h
theorem QG{ls:List La}{o:Int×Fr}(h:∀x∈ls,x.l.length<=25):∀x∈V.lj ls o,x.l.length<=25:=by
 unfold V.lj;split
 ·next he=>
  intro x D;rcases kJ D with D|rfl
  ·exact h x D
  ·obtain⟨_,R,h3⟩:=IA he;rw[R];exact K8 h3
 ·exact h
theorem Cq:∀(Z:List (Int×Fr)) {ls:List La},(∀x∈ls,x.l.length<=25)->∀x∈V.du ls Z,x.l.length<=25
 |[],_,h=>h
 |o::Z,_,h=>Cq Z (QG (o:=o) h)
theorem wZ(ls:List La)(l:List (Int×Fr))(o:Int×Fr):V.du ls (l++[o])=V.lj (V.du ls l) o:=by unfold V.du;rw[List.foldl_append];rfl
theorem oS{w:World}{S:Nat->Prop}:∀ {n:Nat} {cells:List Value},Y.seven.all false w S cells (List.replicate n ())↔cells.length=n * 7/\∀u∈cells,∃z:Int,u=.int .i64 z
 |0,cells=>⟨λh=>by obtain rfl:cells=[]:=h;simp,λh=>ib (by simpa using h.1)⟩
 |n+1,cells=>by
  constructor
  ·rintro⟨cs,rest,rfl,⟨a,b,c,d,e,f,g,rfl⟩,h⟩;obtain⟨F,R⟩:=oS.1 h;refine⟨by simp[F];omega,λu hu=>?_⟩;rcases nf.1 hu with hu|hu
   ·simp at hu;rcases hu with rfl |rfl |rfl |rfl |rfl |rfl |rfl<;>exact⟨_,rfl⟩
   ·exact R u hu
  ·rintro⟨F,R⟩
   match cells,F,R with
   |x0::x1::x2::x3::x4::x5::x6::rest,F,R=>
    obtain⟨a,ha⟩:=R x0 (by simp);obtain⟨b,I⟩:=R x1 (by simp);obtain⟨c,hc⟩:=R x2 (by simp);obtain⟨d,hd⟩:=R x3 (by simp);obtain⟨e,he⟩:=R x4 (by simp);obtain⟨f,hf⟩:=R x5 (by simp);obtain⟨g,hg⟩:=R x6 (by simp);exact⟨[x0,x1,x2,x3,x4,x5,x6],rest,rfl,⟨a,b,c,d,e,f,g,by rw[ha,I,hc,hd,he,hf,hg]⟩,oS.2 ⟨by simp at F;omega,λu hu=>R u (by simp[hu])⟩⟩
   |[],F,_=>simp at F
   |[_],F,_=>simp at F;omega
   |[_,_],F,_=>simp at F;omega
   |[_,_,_],F,_=>simp at F;omega
   |[_,_,_,_],F,_=>simp at F;omega
   |[_,_,_,_,_],F,_=>simp at F;omega
   |[_,_,_,_,_,_],F,_=>simp at F;omega
section
variable{w w':World}{lo:Nat}{a:Ap}{t:Nt}{s:NA}
theorem bU.adE(h:bU w lo a t s){i k:Nat}(hi:i<t.aX.length)(Q:k<7):∃g c z,s.vP=.slice (some ⟨g,0,none⟩) t.aX.length c/\w.cell? ⟨g,i * 7+k,none⟩=some (.int .i64 z)/\w.frozen? ⟨g,i * 7+k,none⟩=false:=by
 obtain⟨cells,F,R,h3⟩:=h.rP;obtain⟨q1,q2⟩:=oS.1 R;rw[jM] at F;rcases F.2 with⟨_,h0⟩|⟨g,cap,cur,hv,_⟩
 ·omega
 have I:i * 7+k<t.aX.length * 7:=by omega
 rw[hv] at F;obtain⟨z,hz⟩:=q2 _ (nc (l:=cells) (n:=i * 7+k) (by rw[q1];exact I));exact⟨g,cap,z,hv,by rw[F.cellAt _ I,eu (by rw[q1];exact I),hz],F.frozenAt _⟩
theorem bU.Zl(h:bU w lo a t s){g c j:Nat}{z:Int}(hv:s.vP=.slice g t.aX.length c):bU (w.setCell ⟨g,j,none⟩ (.int .i64 z)) lo a t s:=
 have e:s.vP.ownBlock=some g:=by rw[hv];rfl
 have hs:bH g w (w.setCell ⟨g,j,none⟩ (.int .i64 z)):=(bH.refl g w).bd j _;have n:=h.dP e
 ⟨h.box.only hs (fT n.2.2.1),h.lt,λb q=>by rw[hs.size];exact h.zN b q,(h.rA.only hs (λq=>q.1.2.2.2.1 e) n.2.2.2.1).aF (DS.eq hs.size) λb e q=>q.1.2.2.1 e,by
  obtain⟨cells,F,R,h3⟩:=h.rP;obtain⟨q1,q2⟩:=oS.1 R;rw[hv] at F h3⊢;rw[jM] at F;refine⟨cells.set j (.int .i64 z),by rw[jM];exact(F.stored j _).1,oS.2 ⟨by rw[fG];exact q1,λu hu=>?_⟩,h3⟩;rcases kJ hu with hu|rfl
  ·exact q2 u hu
  ·exact⟨z,rfl⟩,(h.rN.only hs (λq=>q.1.2.2.2.1 e) n.2.2.2.2).aF (DS.eq hs.size) λb e q=>q.1.2.2.2.2 e,(h.ap.aE λb q=>bU.ds hs (.inr (.inr (.inl e))) b q.1).aF (DS.eq hs.size)⟩
end
theorem xc(lo:Nat)(a:Ap)(t:Nt)(s:NA)(O:Value)(Z:List (Int×Fr))(w:World)(hN:bU w lo a t s)(hO:ay Y.Z false w (DS w s) O Z)(hl:∀o∈Z,0<=o.1/\o.1<(t.aX.length:Int))(vz:∀x∈t.aX,x.l.length<=25)(hn:Z.length<=1000000):
 Calls prog 53 #[.pointer s.nb,O] w λy w'=>y=.returned (.tuple #[])/\bU w' lo a {t with aX:=V.du t.aX Z} s/\cM s w w':=by
 obtain⟨oA,ok,rfl,_⟩:=id hO;have bb:=hO.bounds;replace hO:=U hO;change aK _ at hl;replace vz:=U vz;have HN0:=U hN;go_in;go_wp2;go_loopg [5,6,7,10] Z.length (λq _ _ _ i wr=>∃j:Nat,i=.int .i64 (j:Int)/\j<=Z.length/\q=Z.length-j/\bU wr lo a {t with aX:=V.du t.aX (Z.take j)} s/\cM s w wr)
 case atStart=>exact⟨0,rfl,by omega,by omega,hN,cM.refl _ _⟩
 case round=>
  clear hN;obtain⟨j,rfl,hj,Q,hN,hK⟩:=hrel;change aK _ at Q;by_cases bY:j<Z.length
  case neg=>
   obtain rfl:j=Z.length:=by omega
   rw[iw] at hN;go_wp2;go_end0;exact⟨rfl,hN,hK⟩
  obtain⟨o,ho⟩:=Pc.get_at bY;have kH:=Pc.de ho;have Gq:=hl.Z o (dV ho);obtain⟨⟨lk,f⟩,rfl⟩:∃p,p=o:=⟨_,rfl⟩;dsimp only at Gq;obtain⟨ln,rfl⟩:∃n:Nat,lk=(n:Int):=⟨lk.toNat,by omega⟩;have sM:ln<t.aX.length:=by omega
  obtain⟨gO,oO,cs,rfl,hgO,jr,hcO⟩:=(hO.soft.arr.aE hK.ds).at_ ho;replace jr:=Y.Z.aF jr (DS.up hK.size);have Gy:Y.frame.is false wr (DS wr s) (cs.drop 1) f:=by obtain⟨v0,v1,rfl,h0,F⟩:=jr;exact⟨v0,v1,rfl,h0,F⟩
  obtain⟨fs,hfs⟩:=cJ (cs.drop 1);rw[hfs] at Gy;change aK _ at hfs;have sc:cs.length=10:=Y.Z.len jr;have oc:cs.toArray.all (·.oneCell')=true:=all_oneCell_toArray (Y.Z.one jr);have e0:cs[0]?=some (.int .i64 (ln:Int)):=by obtain⟨v0,v1,rfl,_⟩:=jr;rfl
  have e1:cs[1]?=some (.int .i64 f.kind):=by obtain⟨v0,v1,rfl,_⟩:=jr;rfl
  have IB:wr.rangeAt gO (oO+j * 10) cs:=λi v hv=>by have:=(hcO i v hv).1;simpa[Y.Z,fK] using this
  replace Gy:=U Gy;replace kH:=U kH;replace ho:=U ho;clear jr hcO;obtain⟨ls,rW⟩:=cJ (V.du t.aX (Z.take j));have hlen:ls.length=t.aX.length:=by rw[<-rW];exact yL _ _
  have hl5:∀x∈ls,x.l.length<=25:=by rw[<-rW];exact Cq _ vz.Z
  rw[rW] at hN;change aK _ at rW;obtain⟨x,D⟩:=Pc.get_at (l:=ls) (j:=ln) (by omega);have hx5:=hl5 x (dV D);replace D:=U D;change aK _ at hlen;clear hl5;have rY:ln<ls.length:=by rw[hlen.Z];exact sM
  have hO9:gO<wr.1.size:=aU hgO.lt hK.size;go_upto_region 3 with(first |refine wpList_load_mid rfl 151 (.tmp 12) rfl gO (oO+j * 10) rfl cs _ IB underlying151 rfl (by rw[sc];kernel_rfl) ?_|(refine wpList_store_mid rfl 151 (.tmp 5) (.tmp 13) rfl wr.1.size 0 cs.toArray rfl rfl ((G.new wr _ _).cR (n:=cs.toArray.size) (by simp[sc])) (by rw[jN,sc];kernel_rfl) oc ?_;rw[aH]))
  refine bK λW1 hW=>?_;have bo:G W1 wr.1.size cs.toArray 151:=G.eqv hW ((G.new wr _ _).cm cs.toArray (by simp[sc]));have I:aY wr W1:=Below.eqv hW (aI bE _ _ _ (cT.alloc bE _));clear hW IB;have dq:DK W1 s wr.1.size:=hN.eP bE bo.lt;have QH:=(Y.frame.aE Gy.Z λb q=>I.block b q.lt);replace QH:=Y.frame.aF QH (DS.up I.size);replace hN:=hN.next I;replace hK:=hK.trans (cM.of I);obtain⟨q,hq⟩:=cJ wr.1.size;rw[hq] at bo dq⊢;clear I hq hO9 hgO;obtain⟨b,j7⟩:=cJ (La.push x f);obtain⟨e,nG⟩:=cJ (La.kx x f);change aK _ at j7 nG;replace QH:=U QH;have Wl:=U hN;have HK1:=U hK;have VL:=U bo;have HDQ:=U dq;simp only[Act.put];go_cut [6,7] (λu v wx=>∃(g:Nat)(C:Option Addr)(c:Nat),u=.pointer g/\v=.int .i64 e/\aY W1 wx/\G wx g #[b.bF,b.cap,.slice C b.l.length c] 105/\kz wx (DS wx s) (.agg #[b.bF,b.cap,.slice C b.l.length c]) b)
  case first=>
   refine rg 1024 λW2 I K=>?_;replace hN:=hN.next I;replace bo:=bo.next I;have Wm:=Y.frame.aF (Y.frame.aE QH.Z λb q=>I.block b q.lt) (DS.up I.size);have hA:=I;have aja:=I.size;replace Wm:=U Wm;clear I;have hNs:=U hN;obtain⟨gA,cA,xs,qF,sa,sx,rngA,thA⟩:=hN.rA.get D.Z;have k0:W2.cell? ⟨s.nb,0,none⟩=some (.slice gA ls.length cA):=by rw[aD hN.box 0,<-qF];rfl
   have c0:W2.cell? ⟨q,0,none⟩=some (.int .i64 (ln:Int)):=(aD bo 0).trans (by simpa using e0);have Zm:W2.rangeAt q 1 fs:=λi v hv=>(aD bo (1+i)).trans (by rw[<-hfs.Z,vZ] at hv;simpa using hv);have sd:fs.length=9:=by rw[<-hfs.Z,iQ,sc]
   replace sa:=U sa;clear hN;refine aG [0] 16 ?_;go_wp2;refine tJ 1 ?_;refine aG [2,3,4,5,6,7,8,9] 7 ?_;go_wp2_with (first |refine wpList_load_mid rfl 105 (.tmp 21) rfl gA (ln * 3) rfl xs _ rngA underlying105 rfl (by rw[sx];kernel_rfl) ?_|refine wpList_load_mid rfl 149 (.tmp 23) rfl q 1 rfl fs _ Zm underlying149 rfl (by rw[sd];kernel_rfl) ?_);clear k0 c0 Zm rngA thA;have vr:=kz.of sa.Z;have hfa:=nt.of Wm.Z;replace vr:=U vr;replace hfa:=U hfa;refine wJ 10 14 ?_ ?_
   ·go_wp2_with fail;refine(T9 (DS W2 s) b e (λb q=>q.lt) vr.Z hfa.Z (by omega) j7.Z nG.Z).mono ?_;rintro _ y2 ⟨⟨C,c,rfl,hn⟩,I⟩;replace hA:=dW hA I;replace K:=K.Gt I;have xm:=hn.on;replace xm:=U xm;clear hn;go_wp2;refine⟨λ_=>K,?_⟩;refine aG [11,12] 4 ?_;go_wp2;refine tJ 13 ?_;refine aG [14,15,16] 0 ?_;go_wp2;refine fX ?_;clear K;refine nb λW3 bx fu=>?_;refine eN ?_;go_wp2;go_meet;exact⟨_,C,c,rfl,rfl,dW hA fu,bx,(xm.aE λb k=>fu.block b (k.elim (λk=>aU k.lt I.size) λk=>k.2)).aF λk q=>q.elim (λq=>DS.up (bT I.size fu.size) k q) λq=>hNs.wY q.1 (aU q.2 fu.size)⟩
   ·go_wp2;refine⟨λ_=>K.trans (Ext.below (cT.alloc bE _) bE),?_⟩;refine nb λW3 bx I=>?_;replace hA:=dW hA I;replace K:=K.Gt I;have bxl:=bx.lt;refine oN 10 ?_;go_wp2_with fail;refine(T9 (DS W2 s) b e (λb q=>aU q.lt I.size) (vr.aE λb q=>I.block b q.lt) (hfa.aE λb q=>I.block b q.lt) (by omega) j7.Z nG.Z).mono ?_;rintro _ y2 ⟨⟨C,c,rfl,hn⟩,fu⟩;replace hA:=dW hA fu;replace K:=K.Gt fu;replace bx:=bx.next fu;have xm:=hn.on;replace xm:=U xm;clear hn;go_wp2;refine⟨λ_=>K,?_⟩;refine aG [11,12] 3 ?_;go_wp2;refine tJ 13 ?_;have OO:=ch bx;refine aG [15,16] 0 ?_;go_wp2;refine fX ?_;clear OO K;refine cd λW4 hW=>?_;refine eN ?_;have XT:G W4 W2.1.size #[b.bF,b.cap,.slice C b.l.length c] 105:=G.eqv hW (((bx.bd 0 _).bd 1 _).bd 2 _);have cW:bH W2.1.size y2 W4:=bH.eqv hW ((((bH.refl _ _).bd 0 _).bd 1 _).bd 2 _);have NR:aY W1 W4:=Below.eqv hW (((hA.setCell (by show _<=W2.1.size;omega) _).setCell (by show _<=W2.1.size;omega) _).setCell (by show _<=W2.1.size;omega) _);have hs4:=cW.size;have CN:=fu.size;have vK:=I.size;clear hW;go_wp2;go_meet;exact⟨_,C,c,rfl,rfl,NR,XT,(xm.aE λb k=>cW.block b (k.elim (λk=>by have:=k.lt;omega) λk=>by have:=k.1;omega)).aF λk q=>q.elim (λq=>⟨⟨by have:=q.lt;omega,q.1.2⟩,q.2⟩) λq=>hNs.wY (by omega) (by omega)⟩
  case rest=>
  obtain⟨g,C,c,rfl,rfl,pS,bx9,Wn⟩:=hcut;obtain⟨W9,rfl⟩:∃W,W=wc:=⟨_,rfl⟩;have hN:=Wl.next pS;have hK:=HK1.trans (cM.of pS);have bo:=VL.next pS;have dq:=DK.up pS.size _ HDQ.Z;replace Wn:=U Wn;by_cases he:e=0
  case neg=>
   have Zn:V.lj ls ((ln:Int),f)=ls:=by unfold V.lj;rw[aO];show ¬La.kx (ls.getD ln La.zero) f=0;rw[dB,D.Z];exact λq=>he (nG.Z▸q)
   change aK _ at Zn;go_wp2;go_roundg (Z.length-(j+1))
   case rel=>exact⟨j+1,by simp,by omega,rfl,by rw[kH.Z,wZ,rW.Z,Zn.Z];exact hN,hK⟩
   case measure=>have:=Q.Z;omega
  subst he;have Zn:V.lj ls ((ln:Int),f)=ls.set ln b:=by
   have e:ls.getD ln La.zero=x:=by rw[dB,D.Z];rfl
   unfold V.lj;show(if La.kx (ls.getD ln La.zero) f=0 then ls.set ln (La.push (ls.getD ln La.zero) f) else ls)=_;rw[e,nG.Z,j7.Z,aS rfl]
  have XQ:0<=f.kind/\f.kind<=6:=FW (IA nG.Z).1;obtain⟨kd,ki⟩:∃n:Nat,f.kind=(n:Int):=⟨f.kind.toNat,by omega⟩;have AK:kd<7:=by omega
  rw[ki] at e1;change aK _ at Zn;replace ki:=U ki;clear XQ;go_upto_region 5 with fail
  refine rg 0 λW3 I K=>?_;replace hN:=hN.next I;replace hK:=hK.trans (cM.of I);replace bo:=bo.next I;replace bx9:=bx9.next I;replace dq:=DK.up I.size _ dq;have Wp:=(Wn.aE λk q=>I.block k q.lt).aF (DS.up I.size);replace Wp:=U Wp;clear I K;obtain⟨gA,cA,xs,qF,-,-,-,thA⟩:=hN.rA.get D.Z;have k0:W3.cell? ⟨s.nb,0,none⟩=some (.slice gA ls.length cA):=by rw[aD hN.box 0,<-qF];rfl
  have c0:W3.cell? ⟨q,0,none⟩=some (.int .i64 (ln:Int)):=(aD bo 0).trans (by simpa using e0);have OO:=ch bx9;have adH:=U hN;have adI:=U hK;clear hN hK;refine aG [0] 8 ?_;go_wp2;refine tJ 1 ?_;refine aG [2,3,4,5,6,7,8] 0 ?_;go_wp2_with (refine wpList_store_mid rfl 105 (.tmp 37) (.tmp 36) rfl gA (ln * 3) #[b.bF,b.cap,.slice C b.l.length c] rfl rfl thA (by kernel_rfl) (by simp[Value.oneCell']) ?_;rw[aH]);refine fX ?_;clear OO k0 c0 thA;refine cd λW4 hW=>?_;refine eN ?_;have eA:s.vA.ownBlock=some gA:=by rw[qF];rfl
  have cW:bH gA W3 W4:=by rw[<-hW];exact dQ _ _ _
  have hN:bU W4 lo a {t with aX:=ls.set ln b} s:=by
   rw[<-hW];obtain⟨A,c2,e1,e2⟩:=Wp.Z;injection e1 with e1;injection e1 with e1;injection e1 with _ e1;injection e1 with _ e1;injection e1 with e1 _;rw[<-e1] at e2
   exact adH.Zk (t:={t with aX:=ls}) qF rY ⟨_,rfl,e2⟩
  have hK:=adI.trans (cM.only cW (.inr (.inl eA)));replace bo:=(cM.only (s:=s) cW (.inr (.inl eA))).bx bo dq;replace dq:DK W4 s q:=DK.up (ca cW.size.symm) _ dq;clear hW cW eA qF;go_upto_region 6 with fail
  refine rg 0 λW5 I K=>?_;replace hN:=hN.next I;replace hK:=hK.trans (cM.of I);replace bo:=bo.next I;clear I K;obtain⟨gP,cP,z,Zo,zc,zf⟩:=hN.adE (i:=ln) (k:=kd) (by show ln<(ls.set ln b).length;rw[fG];exact rY) AK;have Zp:s.vP=.slice gP ls.length cP:=by rw[Zo];show Value.slice _ (ls.set ln b).length _=_;rw[fG]
  have k1:W5.cell? ⟨s.nb,1,none⟩=some (.slice gP ls.length cP):=by rw[aD hN.box 1,<-Zp];rfl
  have c0:W5.cell? ⟨q,0,none⟩=some (.int .i64 (ln:Int)):=(aD bo 0).trans (by simpa using e0);have c1:W5.cell? ⟨q,1,none⟩=some (.int .i64 (kd:Int)):=(aD bo 1).trans (by simpa using e1);have adJ:=U hN;have adK:=U hK;replace Zo:=U Zo;clear hN hK Zp;refine aG [0] 15 ?_;go_wp2;refine tJ 1 ?_;refine aG [2,3,4,5,6,7,8,9,10,11] 4 ?_;go_wp2;refine tJ 12 ?_;refine aG [13,14,15] 0 ?_;go_wp2;refine fX ?_;clear k1 c0 c1 zc zf;refine cd λW6 hW=>?_;refine eN ?_;have hN:bU W6 lo a {t with aX:=ls.set ln b} s:=by rw[<-hW];exact adJ.Zl Zo.Z
  have hK:cM s w W6:=adK.trans (by rw[<-hW];exact cM.only ((bH.refl gP W5).bd _ _) (.inr (.inr (.inl (by rw[Zo.Z];rfl)))));clear hW;go_wp2;go_roundg (Z.length-(j+1))
  case rel=>exact⟨j+1,by simp,by omega,rfl,by rw[kH.Z,wZ,rW.Z,Zn.Z];exact hN,hK⟩
  case measure=>have:=Q.Z;omega
theorem Tryz.Ew:(prog.info? 129).map (λi=>(i.zero,i.size,i.bytes))=some (some (.agg #[aP,aP]),2,16):=by kernel_rfl
structure EdP(a:Ap)(c:Cf):Prop where
 L:a.az.length<=1000
 n:c.aL.length<=6
 cl:c.aL≠[]->c.az.length=a.az.length
 w:∀n s,(Tb.at_ a.T n s).waits.length<=1000/\∀x∈(Tb.at_ a.T n s).waits,0<=x/\x<6
theorem Wr(va vc:Value)(a:Ap)(c:Cf)(w:World)(S:Nat->Prop)(hS:∀b,S b->b<w.1.size)(ha:da Y.ap w S va a)(hc:da Y.cf w S vc c)(hP:EdP a c):
 Calls prog 169 #[va,vc] w λy w'=>(∃A k ls,y=.returned (.slice A ls.length k)/\ay Y.msg false w' (bO w.1.size w'.1.size) (.slice A ls.length k) ls/\(∀e∈ls,(0<=e.1/\e.1<6)/\0<=e.2/\e.2<6)/\ls.length<=6000)/\aY w w':=by
 obtain⟨nD,mU,mV,mm,rfl,kX,lM⟩:=ha.ap;obtain⟨CV,Cb,zK,AH,Cc,Cd,rfl,CQ,qX,oW⟩:=hc.cf;have bs0:=CQ.bounds;have bs1:=qX.bounds;change aK _ at hS;clear ha hc oW;have QI:=hP.n;replace hP:=U hP;go_in;go_upto_region 1 with fail
 refine r9 λW1 ba bc J=>?_;have zl:=bc.lt;obtain⟨lo,pe⟩:=cJ W1.1.size;have zlo:lo<=W1.1.size:=by omega
 have zlw:w.1.size+2<=lo:=by omega
 change aK _ at pe;clear zl;have O:=ch bc;go_wp2;clear O;go_loopg [5,6,7,9,10,14] c.aL.length (λq v _ _ _ _ i wr=>∃(j:Nat)(ls:List (Int×Int))(A:Option Addr)(k:Nat),v=.slice A ls.length k/\i=.int .i64 (j:Int)/\j<=c.aL.length/\q=c.aL.length-j/\cj Y.msg 129 lo wr (λ_=>False) (.slice A ls.length k) ls/\(∀e∈ls,(0<=e.1/\e.1<6)/\0<=e.2/\e.2<6)/\ls.length<=j * 1000/\G wr w.1.size #[a.n,.slice nD a.az.length mV,.slice mU a.T.length mm,a.bF] 27/\G wr (w.1.size+1) #[.slice CV c.aL.length AH,.slice Cb c.az.length Cc,.slice zK c.aQ.length Cd] 39/\aY w wr/\lo<=wr.1.size)
 case atStart=>exact⟨0,[],none,0,rfl,rfl,by omega,by omega,cj.nil _ _ _ _ _,λe he=>absurd he (by simp),by simp,ba,bc,J,zlo⟩
 case round=>
  clear ba bc J zlo;obtain⟨j,ls,A,k,rfl,rfl,hj,Q,hr,iZ,Ht,ba,bc,J,hz⟩:=hrel;change aK _ at Q;have HR:=U hr;have HOK:=U iZ;have HLL:=U Ht;clear hr iZ Ht;have XU:=J.size;by_cases bY:j<c.aL.length
  case neg=>
   obtain rfl:j=c.aL.length:=by omega
   go_wp2;go_ret;refine⟨⟨A,k,ls,rfl,HR.on (λ_ q=>q.elim) λb q=>⟨by have:=HR.lt b q;omega,(HR.lt b q).2⟩,HOK.Z,by have:=HLL.Z;omega⟩,J⟩
  obtain⟨s,hs⟩:=Pc.get_at bY;have nN:c.az.length=a.az.length:=hP.cl λe=>by rw[e] at bY;exact absurd bY (jO _)
  change aK _ at nN;obtain⟨gs,os,rfl,Fm,c0⟩:=(CQ.arr.aE (dx hS J)).qW hs;have O:=eE bc ba;go_wp2_with fail;refine(Br _ a.T (j:Int) s wr S (j2 hS J.size) (lM.aE (dx hS J)) (by have:=(hP.w (j:Int) s).1;omega)).mono ?_;clear O c0;rintro _ w5 ⟨⟨u,rfl,hu⟩,I⟩;obtain⟨us,hus⟩:=cJ ((Tb.at_ a.T (j:Int) s).waits);have hwl:=(hP.w (j:Int) s);rw[hus] at hu hwl;obtain⟨uA,uk,rfl,_⟩:=id hu.on;have bbu:=hu.on.bounds;obtain⟨hwl1,Ws⟩:=hwl;replace hu:=U hu;replace Ws:=U Ws;change aK _ at hus;have Vv:=I.size;have Uk:=HR.next I λ_ q=>q.elim;replace ba:=ba.next I;replace bc:=bc.next I;have tV:=dW J I;have RO:∀b,(Value.slice A ls.length k).ownBlock=some b->b<wr.1.size:=λb q=>(HR.lt b q).2;have HOB:=U RO;replace Uk:=U Uk;clear RO J I;obtain⟨Wo,rfl⟩:∃W,W=wr:=⟨_,rfl⟩;go_wp2;go_loopg [5,9,10,25] us.length (λq v _ _ i wz=>∃(m:Nat)(l2:List (Int×Int))(A2:Option Addr)(k2:Nat),v=.slice A2 l2.length k2/\i=.int .i64 (m:Int)/\m<=us.length/\q=us.length-m/\cj Y.msg 129 lo wz (λ_=>False) (.slice A2 l2.length k2) l2/\(∀e∈l2,(0<=e.1/\e.1<6)/\0<=e.2/\e.2<6)/\l2.length<=j * 1000+m/\G wz w.1.size #[a.n,.slice nD a.az.length mV,.slice mU a.T.length mm,a.bF] 27/\G wz (w.1.size+1) #[.slice (some ⟨gs,os,none⟩) c.aL.length AH,.slice Cb c.az.length Cc,.slice zK c.aQ.length Cd] 39/\aY w wz/\w5.1.size<=wz.1.size/\(∀b,bO Wo.1.size w5.1.size b->wz.1[b]?=w5.1[b]?)/\∀b,(Value.slice A2 l2.length k2).ownBlock=some b->b<Wo.1.size\/w5.1.size<=b)
  case atStart=>exact⟨0,ls,A,k,rfl,rfl,by omega,by omega,Uk.Z,HOK.Z,by have:=HLL.Z;omega,ba,bc,tV,bE,λ_ _=>rfl,λb q=> .inl (HOB b q)⟩
  case round=>
   clear ba bc tV;obtain⟨m,l2,A2,k2,rfl,rfl,hm,wD,hr,iZ,Ht,ba,bc,J,mJ,hkr,RO⟩:=hrel;change aK _ at wD iZ Ht hkr RO;replace hr:=U hr;by_cases hmt:m<us.length
   case neg=>
    obtain rfl:m=us.length:=by omega
    go_wp2;go_roundg (c.aL.length-(j+1))
    case rel=>exact⟨j+1,l2,A2,k2,rfl,by simp,by omega,rfl,hr.Z,iZ.Z,by have:=Ht.Z;omega,ba,bc,J,by omega⟩
    case measure=>have:=Q.Z;omega
   obtain⟨x,D⟩:=Pc.get_at hmt;have Wu:=Ws.Z x (dV D);obtain⟨gx,ox,rfl,jy,c0⟩:=(hu.on.soft.arr.aE hkr.Z).qW D;have O:=eE bc ba;go_wp2_with fail;refine(l9 a.n x (j:Int) (.slice nD a.az.length mV) a.az _ ((kX.aE (dx hS J)).og λb q=>aU (hS b q) J.size)).mono ?_;clear O c0;rintro _ w7 ⟨rfl,I⟩;have hz7:=I.size;replace ba:=ba.next I;replace bc:=bc.next I;have Dj:=hr.next I λ_ q=>q.elim;have OU:=dW J I;have Wv:∀b,bO Wo.1.size w5.1.size b->w7.1[b]?=w5.1[b]?:=λb q=>(I.block b (by have:=bO.hi q;omega)).trans (hkr b q);replace Dj:=U Dj;change aK _ at Wv;clear I J;obtain⟨f,hf⟩:=cJ (Gr.find a.az x (j:Int));rw[hf];have skip:∀N:Nat,N=us.length-(m+1)->∃(m':Nat)(l3:List (Int×Int))(A3:Option Addr)(k3:Nat),(Value.slice A2 l2.length k2)=.slice A3 l3.length k3/\Value.int .i64 ((m+1:Nat):Int)=.int .i64 (m':Int)/\m'<=us.length/\N=us.length-m'/\cj Y.msg 129 lo w7 (λ_=>False) (.slice A3 l3.length k3) l3/\(∀e∈l3,(0<=e.1/\e.1<6)/\0<=e.2/\e.2<6)/\l3.length<=j * 1000+m'/\G w7 w.1.size #[a.n,.slice nD a.az.length mV,.slice mU a.T.length mm,a.bF] 27/\G w7 (w.1.size+1) #[.slice (some ⟨gs,os,none⟩) c.aL.length AH,.slice Cb c.az.length Cc,.slice zK c.aQ.length Cd] 39/\aY w w7/\w5.1.size<=w7.1.size/\(∀b,bO Wo.1.size w5.1.size b->w7.1[b]?=w5.1[b]?)/\∀b,(Value.slice A3 l3.length k3).ownBlock=some b->b<Wo.1.size\/w5.1.size<=b:=
    λN e=>⟨m+1,l2,A2,k2,rfl,rfl,by omega,e,Dj.Z,iZ.Z,by have:=Ht.Z;omega,ba,bc,OU,by omega,Wv.Z,RO.Z⟩
   change aK _ at skip;by_cases OL:0<=f
   case neg=>
    have Jn:(f>=0)=False:=by simp;omega
    clear hf;go_wp2;go_roundg (us.length-(m+1))
    case rel=>simpa using skip.Z _ rfl
    case measure=>have:=wD.Z;omega
   obtain⟨fn,hfn,SL⟩:=mH (b:=λy=>decide (y=(x,(j:Int)))) (l:=a.az) (by show 0<=Gr.find a.az x (j:Int);rw[hf];exact OL);have Zf:f=(fn:Int):=by rw[<-hf];exact hfn
   subst Zf;clear hf hfn OL;obtain⟨row,ct⟩:=Pc.get_at (l:=c.az) (j:=fn) (by rw[nN.Z];exact SL);obtain⟨gr,orr,rA,rk,rfl,DB,c1,UJ⟩:=(qX.arr.aE (dx hS OU)).row ct;have ajf:fn<c.az.length:=by rw[nN.Z];exact SL
   have Sy:=UJ.bounds;clear ct UJ;have O:=ch bc;by_cases he:row.length=0
   case neg=>
    have ur:¬((row.length:Int)=0):=by omega
    go_wp2;go_roundg (us.length-(m+1))
    case rel=>simpa using skip.Z _ rfl
    case measure=>have:=wD.Z;omega
   rw[he] at c1;go_upto_region 10 with fail
   clear O c1;go_wp2_with (at_builtin;refine dv (r:=Y.msg) (y:=((j:Int),x)) rfl (.tmp 45) (.tmp 49) 22 rfl lo 129 Tryz.Ew underlying22 rfl (by omega) (.slice A2 l2.length k2) rfl (Dj.next (cT.alloc bE _) λ_ q=>q.elim) (λ_ q=>q.elim) (by simp;omega) 1 w7.1.size [(j:Int),x] rfl (G.new _ _ _) rfl (by have:=Ht.Z;omega) ?_;intro v9 w9 im lE j7 nO;obtain⟨A9,k9,rfl,_,_⟩:=im.form);have qB:=lE.size;have tY:∀b,b<w7.1.size->(Value.slice A2 l2.length k2).ownBlock≠some b->w9.1[b]?=w7.1[b]?:=λb q r=>(lE.block b (by simp;omega) (λe=>r e.symm)).trans (nm _ _ q);have cG:∀b,(Value.slice A2 l2.length k2).ownBlock=some b->lo<=b/\b<w7.1.size:=Dj.lt;go_roundg (us.length-(m+1))
   case rel=>
    refine⟨m+1,l2++[((j:Int),x)],A9,k9,by simp,by simp,by omega,rfl,im,λe he=>?_,by have:=Ht.Z;simp;omega,(tY _ (by have:=ba.lt;omega) λe=>by have:=cG _ e;omega).trans ba,(tY _ (by have:=bc.lt;omega) λe=>by have:=cG _ e;omega).trans bc,?_,by simp at qB;omega,λb q=>(tY b (by have:=bO.hi q;omega) λe=>by have:=RO.Z b e;have:=bO.lo q;have:=bO.hi q;omega).trans (Wv b q),λb q=>?_⟩
    ·rcases nf.1 he with he|he
     ·exact iZ e he
     ·simp at he;subst he;exact⟨⟨by omega,by show(j:Int)<6;omega⟩,Wu⟩
    ·exact OU.trans (cT.alloc OU.size _ |>.trans (j7.mono (by omega)))
    ·rcases nO with h|h
     ·exact RO b (h▸q)
     ·rw[h] at q;cases q;right;simp;omega
   case measure=>have:=wD.Z;omega
def BW(w:World)(g:Nat):Prop:=∃C:List Value,C.length=36/\(∀u∈C,∃b,u=.bool b)/\G w g C.toArray 288
section
variable{w w':World}{g:Nat}
theorem BW.next(h:BW w g)(I:aY w w'):BW w' g:=by obtain⟨C,F,R,h3⟩:=h;exact⟨C,F,R,h3.next I⟩
instance:Nx w w' (BW w g) (BW w' g):=⟨λq p=>p.next q⟩
theorem BW.lt(h:BW w g):g<w.1.size:=by obtain⟨C,F,R,h3⟩:=h;exact h3.lt
theorem BW.get(h:BW w g){k:Nat}(Q:k<36):(∃b,w.cell? ⟨g,k,none⟩=some (.bool b))/\w.frozen? ⟨g,k,none⟩=false:=by
 obtain⟨C,F,R,h3⟩:=h;obtain⟨b,I⟩:=R _ (nc (l:=C) (n:=k) (by omega));exact⟨⟨b,by rw[aD h3 k,dY,eu (by omega),I]⟩,h3.mO k⟩
theorem BW.set(h:BW w g)(k:Nat)(b:Bool):BW (w.setCell ⟨g,k,none⟩ (.bool b)) g:=by
 obtain⟨C,F,R,h3⟩:=h;refine⟨C.set k (.bool b),by rw[fG];exact F,λu hu=>?_,h3.cC k _⟩;rcases kJ hu with hu|rfl
 ·exact R u hu
 ·exact⟨b,rfl⟩
end
theorem Zq(va vc:Value)(a:Ap)(c:Cf)(N:Nat)(w:World)(S:Nat->Prop)(hS:∀b,S b->b<w.1.size)(ha:da Y.ap w S va a)(hc:da Y.cf w S vc c)(hP:EdP a c)(hN:a.n=(N:Int))(UK:N<=6):
 Calls prog 117 #[va,vc] w λy w'=>(∃A n k,y=.returned (.slice A n k))/\aY w w':=by
 obtain⟨nD,mU,mV,mm,rfl,kX,lM⟩:=ha.ap;obtain⟨CV,Cb,zK,AH,Cc,Cd,rfl,CQ,qX,oW⟩:=hc.cf;replace ha:=U ha;replace hc:=U hc;change aK _ at hS hN;replace hP:=U hP;clear kX lM CQ qX oW;go_in;go_upto_region 2 with fail
 refine bK λW1 hW=>?_;have ba:G W1 (w.1.size) #[a.n,.slice nD a.az.length mV,.slice mU a.T.length mm,a.bF] 27:=G.eqv hW (((G.kZ _ _ (by simp)).alloc _).alloc _);have bc:G W1 (w.1.size+1) #[.slice CV c.aL.length AH,.slice Cb c.az.length Cc,.slice zK c.aQ.length Cd] 39:=G.eqv hW ((G.kZ _ _ (by simp)).alloc _);have bw:BW W1 (w.1.size+1+1):=⟨List.replicate 36 (.bool false),rfl,λu hu=>⟨false,(nR.1 hu).2⟩,G.eqv hW (G.kZ _ _ (by simp))⟩;have J:aY w W1:=Below.eqv hW (((cT.alloc (by first |(simp;done)|(simp;omega)) _).alloc (by first |(simp;done)|(simp;omega)) _).alloc (by first |(simp;done)|(simp;omega)) _);clear hW;have zl:w.1.size+3<=W1.1.size:=by have:=bw.lt;omega
 have O:=eE ba bc;go_wp2_with fail;refine(Wr _ _ a c W1 S (j2 hS J.size) (ha.aE (dx hS J)) (hc.aE (dx hS J)) hP.Z).mono ?_;clear O bc;rintro _ w2 ⟨⟨A,k,ls,rfl,rW,iZ,Ht⟩,I⟩;have bbl:=rW.bounds;have z2:=I.size;replace ba:=ba.next I;replace bw:=bw.next I;have ly:=dW J I;replace rW:=U rW;replace iZ:=U iZ;clear J I;obtain⟨L,hL⟩:=cJ w2.1.size;have hL2:L<=w2.1.size:=by omega
 have hLw:w.1.size+3<=L:=by omega
 have HL:=U hL;go_wp2;go_loopg [7,17] ls.length (λq _ i wr=>∃j:Nat,i=.int .i64 (j:Int)/\j<=ls.length/\q=ls.length-j/\G wr (w.1.size) #[a.n,.slice nD a.az.length mV,.slice mU a.T.length mm,a.bF] 27/\BW wr (w.1.size+1+1)/\aY w wr/\L<=wr.1.size/\∀b,bO W1.1.size w2.1.size b->wr.1[b]?=w2.1[b]?)
 case atStart=>exact⟨0,rfl,by omega,by omega,ba,bw,ly,hL2,λ_ _=>rfl⟩
 case round=>
  clear ba bw ly hL2 hL;obtain⟨j,rfl,hj,Q,ba,bw,J,hz,hkr⟩:=hrel;have Hk:=U Q;change aK _ at hkr;clear Q;have XU:=J.size;by_cases bY:j<ls.length
  case pos=>
   obtain⟨⟨e1,e2⟩,he⟩:=Pc.get_at bY;obtain⟨⟨F,R⟩,h3,h4⟩:=iZ _ (dV he);dsimp only at F R h3 h4;obtain⟨n1,rfl⟩:∃n:Nat,e1=(n:Int):=⟨e1.toNat,by omega⟩;obtain⟨n2,rfl⟩:∃n:Nat,e2=(n:Int):=⟨e2.toNat,by omega⟩;have g1:n1<6:=by omega
   have g2:n2<6:=by omega
   clear F R h3 h4;obtain⟨ge,oe,rfl,Mv,c0,c1⟩:=(rW.arr.aE hkr.Z).yY he;dsimp only at c0 c1;clear he;go_upto_region 5 with fail
   clear c0 c1;refine nw λW2 be I=>?_;replace ba:=ba.next I;replace bw:=bw.next I;have ly:=dW J I;have mJ:=I.size;have Zr:∀b,bO W1.1.size w2.1.size b->W2.1[b]?=w2.1[b]?:=λb q=>(I.block b (by have:=bO.hi q;have:=HL.Z;omega)).trans (hkr b q);change aK _ at Zr;clear I J;refine rg 0 λW3 I K=>?_;replace ba:=ba.next I;replace bw:=bw.next I;replace be:=be.next I;have fO:=dW ly I;have FB:=I.size;have Zs:∀b,bO W1.1.size w2.1.size b->W3.1[b]?=w2.1[b]?:=λb q=>(I.block b (by have:=bO.hi q;have:=HL.Z;omega)).trans (Zr b q);change aK _ at Zs;clear I K ly;obtain⟨⟨bb,SH⟩,RD⟩:=bw.get (k:=n1 * 6+n2) (by omega);have O:=ch be;refine aG [0,1,2,3,4,5,6] 0 ?_;go_wp2;clear O SH RD;refine eJ ?_;go_wp2;go_roundg (ls.length-(j+1))
   case rel=>exact⟨j+1,by simp,by omega,rfl,ba.dE (by omega) _ _,bw.set _ _,fO.setCell (by show _<=w.1.size+1+1;omega) _,by simp[World.setCell];omega,λb q=>(dF _ _ _ _ (by have:=bO.lo q;simp;omega)).trans (Zs b q)⟩
   case measure=>have:=Hk.Z;omega
  clear hkr rW iZ HL;obtain⟨ac,af,al⟩:=ba.open_;rw[hN.Z] at ac;go_wp2;clear ac af al;obtain⟨Wa,rfl⟩:∃W,W=wr:=⟨_,rfl⟩;go_loopg [8,9,10,31] N (λq _ _ _ i wr=>∃j:Nat,i=.int .i64 (j:Int)/\j<=N/\q=N-j/\G wr (w.1.size) #[a.n,.slice nD a.az.length mV,.slice mU a.T.length mm,a.bF] 27/\BW wr (w.1.size+1+1)/\aY w wr/\L<=wr.1.size)
  case atStart=>exact⟨0,rfl,by omega,by omega,ba,bw,J,hz⟩
  case round=>
   clear ba bw J hz XU;obtain⟨jk,rfl,Pd,Ph,ba,bw,J,hz⟩:=hrel;change aK _ at Ph;obtain⟨ac,af,al⟩:=ba.open_;rw[hN.Z] at ac;by_cases ajg:jk<N
   case pos=>
    go_wp2;clear ac af al;obtain⟨Wb,rfl⟩:∃W,W=wr:=⟨_,rfl⟩;go_loopg [9,10,37] N (λq _ _ i wr=>∃j:Nat,i=.int .i64 (j:Int)/\j<=N/\q=N-j/\G wr (w.1.size) #[a.n,.slice nD a.az.length mV,.slice mU a.T.length mm,a.bF] 27/\BW wr (w.1.size+1+1)/\aY w wr/\L<=wr.1.size)
    case atStart=>exact⟨0,rfl,by omega,by omega,ba,bw,J,hz⟩
    case round=>
     clear ba bw J hz;obtain⟨ji,rfl,C5,MC,ba,bw,J,hz⟩:=hrel;change aK _ at MC;obtain⟨ac,af,al⟩:=ba.open_;rw[hN.Z] at ac;by_cases ajh:ji<N
     case pos=>
      go_wp2;clear ac af al;obtain⟨Wc,rfl⟩:∃W,W=wr:=⟨_,rfl⟩;go_loopg [10,43] N (λq _ i wr=>∃j:Nat,i=.int .i64 (j:Int)/\j<=N/\q=N-j/\G wr (w.1.size) #[a.n,.slice nD a.az.length mV,.slice mU a.T.length mm,a.bF] 27/\BW wr (w.1.size+1+1)/\aY w wr/\L<=wr.1.size)
      case atStart=>exact⟨0,rfl,by omega,by omega,ba,bw,J,hz⟩
      case round=>
       clear ba bw J hz;obtain⟨jj,rfl,hjj,hkj,ba,bw,J,hz⟩:=hrel;change aK _ at hkj;by_cases aji:jj<N
       case pos=>
        go_upto_region 16 with fail
        refine rg 0 λW3 I K=>?_;replace ba:=ba.next I;replace bw:=bw.next I;have fO:=dW J I;have FB:=I.size;clear I K J;have XU:=fO.size;obtain⟨⟨b1,ee⟩,Jn⟩:=bw.get (k:=ji * 6+jj) (by omega);obtain⟨⟨b2,dO⟩,PE⟩:=bw.get (k:=ji * 6+jk) (by omega);obtain⟨⟨b3,fu⟩,Uh⟩:=bw.get (k:=jk * 6+jj) (by omega);have gi:ji<6:=by omega
        have gj:jj<6:=by omega
        have gk:jk<6:=by omega
        cases b1<;>cases b2<;>cases b3;all_goals
         refine aG [0,1,2,3,4,5,6,7,8,9,10,11,12,13,14,15,16,17,18,19,20,21,22,23] 0 ?_;go_wp2;clear ee Jn dO PE fu Uh gi gj gk;refine eJ ?_;go_wp2;go_roundg (N-(jj+1))
         case rel=>exact⟨jj+1,by simp,by omega,rfl,ba.dE (by omega) _ _,bw.set _ _,fO.setCell (by show _<=w.1.size+1+1;omega) _,by simp[World.setCell];omega⟩
         case measure=>have:=hkj.Z;omega
       obtain rfl:N=jj:=by omega
       go_wp2;go_roundg (N-(ji+1))
       case rel=>exact⟨ji+1,by simp,by omega,rfl,ba,bw,J,hz⟩
       case measure=>have:=MC.Z;omega
     obtain rfl:N=ji:=by omega
     clear ac af al;go_wp2;go_roundg (N-(jk+1))
     case rel=>exact⟨jk+1,by simp,by omega,rfl,ba,bw,J,hz⟩
     case measure=>have:=Ph.Z;omega
   obtain rfl:N=jk:=by omega
   go_wp2;clear ac af al;obtain⟨Wd,rfl⟩:∃W,W=wr:=⟨_,rfl⟩;have zL:=bw.lt;go_loopg [11,12,75] N (λq v _ i wr=>∃(j:Nat)(l2:List Int)(A2:Option Addr)(k2:Nat),v=.slice A2 l2.length k2/\i=.int .i64 (j:Int)/\j<=N/\q=N-j/\G wr (w.1.size) #[a.n,.slice nD a.az.length mV,.slice mU a.T.length mm,a.bF] 27/\BW wr (w.1.size+1+1)/\aY w wr/\L<=wr.1.size/\l2.length<=j/\cj Y.int 3 L wr (λ_=>False) (.slice A2 l2.length k2) l2)
   case atStart=>exact⟨0,[],none,0,rfl,rfl,by omega,by omega,ba,bw,J,hz,by simp,cj.nil _ _ _ _ _⟩
   case round=>
    clear ba bw J hz;obtain⟨j,l2,A2,k2,rfl,rfl,hj,Q,ba,bw,J,hz,DH,hr⟩:=hrel;change aK _ at Q;replace hr:=U hr;have XU:=J.size;by_cases bY:j<N
    case neg=>
     obtain rfl:N=j:=by omega
     go_wp2;go_ret;exact⟨⟨_,_,_,rfl⟩,J⟩
    obtain⟨⟨b1,ee⟩,Jn⟩:=bw.get (k:=j * 6+j) (by omega);have gj:j<6:=by omega
    cases b1
    case false=>
     go_wp2;go_roundg (N-(j+1))
     case rel=>exact⟨j+1,l2,A2,k2,rfl,by simp,by omega,rfl,ba,bw,J,hz,by omega,hr.Z⟩
     case measure=>have:=Q.Z;omega
    go_upto_region 25 with fail
    clear ee Jn gj;go_wp2_with (at_builtin;refine dv (r:=Y.int) (y:=(j:Int)) rfl (.tmp 83) (.tmp 85) 36 rfl L 3 Tryz.eG underlying36 rfl (by omega) (.slice A2 l2.length k2) rfl (hr.next (cT.alloc bE _) λ_ q=>q.elim) (λ_ q=>q.elim) (by simp;omega) 1 wr.1.size [(j:Int)] rfl (G.new _ _ _) rfl (by omega) ?_;intro v9 w9 im lE j7 nO;obtain⟨A9,k9,rfl,_,_⟩:=im.form);have qB:=lE.size;have cG:∀b,(Value.slice A2 l2.length k2).ownBlock=some b->L<=b:=λb q=>(hr.lt b q).1;have tY:∀b,b<wr.1.size->b<L->w9.1[b]?=wr.1[b]?:=λb q r=>(lE.block b (by simp;omega) (λe=>by have:=cG b e.symm;omega)).trans (nm _ _ q);go_roundg (N-(j+1))
    case rel=>
     refine⟨j+1,l2++[(j:Int)],A9,k9,by simp,by simp,by omega,rfl,(tY _ (by omega) (by omega)).trans ba,?_,?_,by simp at qB;omega,by simp;omega,im⟩
     ·obtain⟨C,F,R,h3⟩:=bw;exact⟨C,F,R,(tY _ h3.lt (by omega)).trans h3⟩
     ·exact J.trans (cT.alloc J.size _ |>.trans (j7.mono (by omega)))
    case measure=>have:=Q.Z;omega
theorem NT(a0 a1 a2 a3 a4:Int)(w:World):Calls prog 27 #[.agg #[a0,a1,a2,a3,a4]] w λy w'=>y=.returned (.agg #[a0,a1,a2,a3,a4])/\aY w w':=by
 go_in;go_upto_region 1 with fail
 refine r9 λW0 bt bx J=>?_;have ab:=eE bt bx;go_wp2;refine bL (v:=.agg #[a0,a1,a2,a3,a4]) (by simp[results,results27,go_sem,ab]) rfl ⟨rfl,aI (by omega) [_,_,_,_,_] 0 _ J⟩
theorem NU(A1 A2 A3:Option Addr)(n1 c1 c2 n3 c3:Nat)(xs:List (List (Int×Int)))(w:World)(S:Nat->Prop)(hS:∀b,S b->b<w.1.size)(h:ay Y.msg.slice false w S (.slice A2 xs.length c2) xs)(D:xs.length<=1000):
 Calls prog 211 #[.agg #[.slice A1 n1 c1,.slice A2 xs.length c2,.slice A3 n3 c3]] w λy w'=>(∃u,y=.returned u/\aM Y.int true w' w.1.size w'.1.size u (xs.map λl=>(l.length:Int)))/\aY w w':=by
 obtain⟨hl,hm⟩:xs.length<=c2/\c2<=2^63-1:=by obtain⟨_,_,he,q1,q2,_⟩:=h;cases he;exact⟨q1,q2⟩
 have HA:=U h.arr;change aK _ at hS;clear h;go_in;go_upto_region 1 with fail
 refine jt λW0 bx J=>?_;have ab:=ch bx;go_wp2;clear ab;go_loopg [3,5,9] xs.length (λq s _ i wr=>∃j:Nat,i=.int .i64 (j:Int)/\j<=xs.length/\q=xs.length-j/\wr.ownsRow w.1.size 3 1 s ((xs.take j).map λl=>(l.length:Int)).length (ints ((xs.take j).map λl=>(l.length:Int)))/\aY w wr)
 case atStart=>exact⟨0,rfl,by omega,by omega,⟨rfl,.inl ⟨rfl,rfl⟩⟩,J⟩
 case round=>
  clear J bx;obtain⟨j,rfl,hj,Q,hr,J⟩:=hrel;have HR:=U hr;change aK _ at Q;clear hr;by_cases bY:j<xs.length
  ·obtain⟨x,iF⟩:=Pc.get_at bY;obtain⟨gx,o,cs,rfl,hg,⟨v,rfl,hv⟩,hc⟩:=dm.at_ (HA.aE (dx hS J)) iF;obtain⟨B,cB,rfl,_⟩:=id hv;have e0:wr.cell? ⟨gx,o+j,none⟩=some (.slice B x.length cB):=by simpa[Y.slice] using(hc 0 _ rfl).1
   have gg:gx<wr.1.size:=aU (hS gx hg) J.size;have gw:((xs.take (j+1)).map λl=>(l.length:Int))=((xs.take j).map λl=>(l.length:Int))++[(x.length:Int)]:=by rw[Pc.de iF,jP];rfl
   change aK _ at gw;clear iF hc hv;have Az:=HR.Z;have fM:=J.size;have hlen:((xs.take j).map λl=>(l.length:Int)).length<=1000:=by simp;omega
   have HB:=U J;generalize QJ:((xs.take j).map λl=>(l.length:Int))=ys at Az hlen;change aK _ at QJ;go_wp2_with (at_builtin;refine jS rfl _ _ 36 rfl w.1.size 3 Tryz.eG underlying36 rfl _ _ _ rfl Az (.int .i64 (x.length:Int)) rfl rfl (by omega) (by omega) (by omega) ?_;intro v1 w1 ik lV ee);go_roundg (xs.length-(j+1))
   case rel=>
    rw[qg] at ik;refine⟨j+1,by simp,by omega,rfl,?_,HB.trans ee⟩;rw[gw.Z,QJ.Z,dh];exact ik
   case measure=>have:=Q.Z;omega
  ·obtain rfl:j=xs.length:=by omega
   have hr:=HR.Z;rw[iw] at hr;replace hr:=U hr;go_wp2;go_ret;exact⟨⟨_,rfl,aM.ie hr.Z (kt _ _ _ _) bE bE⟩,J⟩
theorem IC{l:List Int}(h0:∀x∈l,0<=x)(j:Nat):0<=(l.take j).sum/\(l.take j).sum<=l.sum:=by
 induction l generalizing j with
 |nil=>simp
 |cons x l ih=>
  cases j with
  |zero=>
   have:=(ih (λy hy=>h0 y (by simp[hy])) l.length).1;rw[iw] at this;have D:=h0 x (by simp);simp;omega
  |succ j=>
   have:=ih (λy hy=>h0 y (by simp[hy])) j;have D:=h0 x (by simp);simp;omega
theorem SV(A1 A2 A3:Option Addr)(n1 c1 c2 n3 c3:Nat)(xs:List (List (Int×Int)))(w:World)(S:Nat->Prop)(hS:∀b,S b->b<w.1.size)(h:ay Y.msg.slice false w S (.slice A2 xs.length c2) xs)(D:xs.length<=1000)(SW:(xs.map λl=>(l.length:Int)).sum<=1000000):
 Calls prog 168 #[.agg #[.slice A1 n1 c1,.slice A2 xs.length c2,.slice A3 n3 c3]] w λy w'=>y=.returned (.int .i64 (xs.map λl=>(l.length:Int)).sum)/\aY w w':=by
 have h0:∀y∈(xs.map λl=>(l.length:Int)),0<=y:=λy hy=>by obtain⟨l,_,rfl⟩:=pR.1 hy;omega
 obtain⟨ys,QJ⟩:=cJ (xs.map λl=>(l.length:Int));rw[QJ] at h0 SW⊢;change aK _ at QJ hS;replace h0:=U h0;go_in;go_upto_region 1 with fail
 refine jt λW0 bx J=>?_;have ab:=ch bx;go_wp2_with fail;clear ab;refine(NU A1 A2 A3 n1 c1 c2 n3 c3 xs W0 S (j2 hS J.size) (h.aE (dx hS J)) D).mono ?_;rintro e w1 ⟨⟨u,rfl,hu⟩,I⟩;rw[QJ.Z] at hu;replace J:=J.trans (I.mono J.size);clear I bx;obtain⟨A,c,rfl,hl,hm,hA⟩:=hu;unfold maxLen at hm;replace hA:=U hA;go_wp2;go_loopg [3,5,9] ys.length (λq s _ i wr=>∃j:Nat,i=.int .i64 (j:Int)/\s=.int .i64 (ys.take j).sum/\j<=ys.length/\q=ys.length-j/\aY w1 wr)
 case atStart=>exact⟨0,rfl,rfl,by omega,by omega,cT⟩
 case round=>
  obtain⟨j,rfl,rfl,hj,Q,I⟩:=hrel;change aK _ at Q;by_cases bY:j<ys.length
  ·obtain⟨x,iF⟩:=Pc.get_at bY;obtain⟨gx,o,rfl,Mf,hg,c0⟩:=(hA.aE λb _ q=>I.block b q).int iF;have gg:gx<wr.1.size:=aU hg I.size;have gw:(ys.take (j+1)).sum=(ys.take j).sum+x:=by rw[Pc.de iF,List.sum_append];simp
   have F:=IC h0.Z j;have R:=IC h0.Z (j+1);rw[gw] at R;change aK _ at gw;clear iF;generalize (ys.take j).sum=t at F R gw⊢;go_wp2;go_roundg (ys.length-(j+1))
   case rel=>exact⟨j+1,by simp,by rw[gw.Z],by omega,rfl,I⟩
   case measure=>have:=Q.Z;omega
  ·obtain rfl:j=ys.length:=by omega
   rw[iw];go_wp2;go_ret;exact⟨rfl,J.trans (I.mono J.size)⟩
end Go.Proofs.YtmgahjkopiaglaaGreat
