/- Lemmas, walks and contracts by which the statement is proved. -/
import Derived.Test.YtmgahjkopiaglaaGreatK17
import Derived.Lib.Overlaps
set_option maxRecDepth 100000
set_option maxHeartbeats 16000000
set_option linter.all false
namespace Go.Proofs.YtmgahjkopiaglaaGreat
open Go.RowKit Go.Proofs.Tryz
def lq(row:List (Int×Int))(i:Nat)(x:Int×Int):List (Int×Int):=row.take i++x::row.drop i
def mc(row:List (Int×Int)):List Value:=row.flatMap λm=>[m.1,m.2]
theorem kj:∀l:List (Int×Int),(mc l).length=l.length * 2
 |[]=>rfl
 |m::l=>by have:=kj l;unfold mc at this⊢;rw[List.flatMap_cons,dh,this];simp;omega
theorem P9{fr:Bool}{w:World}{S:Nat->Prop}:∀l:List (Int×Int),Y.msg.all fr w S (mc l) l
 |[]=>rfl
 |m::l=>⟨[_,_],mc l,rfl,rfl,P9 l⟩
theorem P'{fr:Bool}{w:World}{S:Nat->Prop}:∀ {l:List (Int×Int)} {cs:List Value},Y.msg.all fr w S cs l->cs=mc l
 |[],cs,h=>h
 |m::l,cs,h=>by
  obtain⟨c1,c2,rfl,F,R⟩:=h;have xk:c1=[.int .i64 m.1,.int .i64 m.2]:=F;rw[xk,P' R];rfl
theorem VH(a b:List (Int×Int)):mc (a++b)=mc a++mc b:=by unfold mc;simp
theorem FH:∀(l:List (Int×Int))(i:Nat),(mc l).take (i * 2)=mc (l.take i)
 |[],i=>by simp[mc]
 |m::l,0=>by simp[mc]
 |m::l,i+1=>by
  have:=FH l i;show([Value.int .i64 m.1,.int .i64 m.2]++mc l).take ((i+1) * 2)=[Value.int .i64 m.1,.int .i64 m.2]++mc (l.take i);rw[show(i+1) * 2=i * 2+1+1 by omega];simp[List.take_succ_cons,this]
theorem FJ:∀(l:List (Int×Int))(i:Nat),(mc l).drop (i * 2)=mc (l.drop i)
 |[],i=>by simp[mc]
 |m::l,0=>by simp
 |m::l,i+1=>by
  have:=FJ l i;show([Value.int .i64 m.1,.int .i64 m.2]++mc l).drop ((i+1) * 2)=mc (l.drop i);rw[show(i+1) * 2=i * 2+1+1 by omega];simp[this]
theorem Qa(row:List (Int×Int))(i:Nat)(x:Int×Int):mc (lq row i x)=mc (row.take i)++([.int .i64 x.1,.int .i64 x.2]++mc (row.drop i)):=by
 unfold lq;rw[VH];rfl
theorem Qb{row:List (Int×Int)}{sl L L1:List Value}{i n c:Nat}(x:Int×Int)(hL:mc row++sl=L)(hn:row.length=n)(hi:i<n)(hl:L.length=c * 2)(hc:n+1<=c)
 (F:L1=L.take ((i+1) * 2)++mc (row.drop i)++L.drop ((i+1) * 2+(mc (row.drop i)).length)):
 L1.take (i * 2)++[.int .i64 x.1,.int .i64 x.2]++L1.drop (i * 2+2)=mc (lq row i x)++L.drop ((n+1) * 2):=by
 have hd:(mc (row.drop i)).length=(n-i) * 2:=by rw[kj,iQ,hn]
 have ht:L.take (i * 2)=mc (row.take i):=by
  rw[<-hL,xu (by rw[kj,hn];omega),FH]
 have bY:(L.take ((i+1) * 2)).length=(i+1) * 2:=by rw[dL];omega
 have e1:L1.take (i * 2)=mc (row.take i):=by
  rw[F,qH,xu (by omega),List.take_take,qJ (by omega),ht]
 have e2:L1.drop (i * 2+2)=mc (row.drop i)++L.drop ((n+1) * 2):=by
  rw[F,qH,wa,uI (by omega),bY,show i * 2+2-(i+1) * 2=0 by omega,hd,show(i+1) * 2+(n-i) * 2=(n+1) * 2 by omega];simp
 rw[e1,e2,Qa];simp
theorem Sz{row:List (Int×Int)}{zs cur C1 C2:List Value}{i n:Nat}(x:Int×Int)(hn:row.length=n)(hi:i<n)(Nb:cur.take ((n+1) * 2)=mc (row.take i)++zs)(nN:(n+1) * 2<=cur.length)
 (F:C1=cur.take (i * 2)++[.int .i64 x.1,.int .i64 x.2]++cur.drop (i * 2+2))(R:C2=C1.take ((i+1) * 2)++mc (row.drop i)++C1.drop ((i+1) * 2+(mc (row.drop i)).length)):
 C2=mc (lq row i x)++cur.drop ((n+1) * 2):=by
 have hd:(mc (row.drop i)).length=(n-i) * 2:=by rw[kj,iQ,hn]
 have ht:cur.take (i * 2)=mc (row.take i):=by
  have h3:(cur.take ((n+1) * 2)).take (i * 2)=cur.take (i * 2):=by rw[List.take_take,qJ (by omega)]
  rw[<-h3,Nb,xu (by rw[kj,dL,hn];omega)];exact jL (by rw[kj,dL,hn];omega)
 have bY:(cur.take (i * 2)).length=i * 2:=by rw[dL];omega
 have e1:C1.take ((i+1) * 2)=mc (row.take i)++[.int .i64 x.1,.int .i64 x.2]:=by
  rw[F,xu (by simp;omega),ht];exact jL (by rw[dh,kj,dL,hn];simp;omega)
 have e2:C1.drop ((i+1) * 2+(mc (row.drop i)).length)=cur.drop ((n+1) * 2):=by
  rw[F,hd,wa,uI (by simp;omega),dh,bY,List.drop_drop];simp;congr 1;omega
 rw[R,e1,e2,Qa];simp
theorem VI(k:Nat):∀u∈(Builtin.zeroCells (Value.agg #[aP,aP]).cells k).toList,u.oneCell'=true:=by
 intro u hu;unfold Builtin.zeroCells at hu;simp[Value.cells] at hu;obtain⟨j,_,rfl⟩:=hu;rcases Nat.mod_two_eq_zero_or_one j with h|h<;>rw[h]<;>rfl
theorem Qc(l:List (Int×Int)):∀u∈mc l,u.oneCell'=true:=λu hu=>by
 unfold mc at hu;simp at hu;obtain⟨_,_,_,rfl |rfl⟩:=hu<;>rfl
theorem Row.blk{e:TypeId}{B:Nat}{w:World}{b:Option Nat}{A:Option Addr}{n c:Nat}{xs:List (Int×Int)}(h:Row Y.msg e B w b (.slice A n c) xs)(hn:0<xs.length):
 ∃g sl,A=some ⟨g,0,none⟩/\b=some g/\B<=g/\G w g (mc xs++sl).toArray e/\(mc xs++sl).length=c * 2/\xs.length<=c/\c<=maxLen/\n=xs.length:=by
 obtain⟨cells,F,R,h3⟩:=h;obtain rfl:=P' R;rcases F.2 with⟨_,h0⟩|⟨g,cap,cur,he,hg,hh,hnc,CJ,fM,ht⟩
 ·omega
 ·injection he with e1 e2 e3
  subst e1 e2 e3;have XC:cur.toList.take (xs.length * 2)=mc xs:=ht;refine⟨g,cur.toList.drop (xs.length * 2),rfl,h3.symm,hg,?_,?_,hnc,CJ,rfl⟩
  ·unfold G;rw[hh,<-XC,vU]
  ·rw[<-XC,vU];simpa using(show cur.size=c * 2 from fM)
theorem Row.mk_{e:TypeId}{B:Nat}{w:World}{g c:Nat}{xs:List (Int×Int)}{sl:List Value}(h:G w g (mc xs++sl).toArray e)(J:B<=g)(hl:(mc xs++sl).length=c * 2)(hc:xs.length<=c)(hm:c<=maxLen):Row Y.msg e B w (some g) (.slice g xs.length c) xs:=
 ⟨mc xs,⟨kj xs,.inr ⟨g,c,_,rfl,J,h,hc,hm,by simpa using(show _=c * Y.msg.size from hl),by rw[List.toList_toArray,show xs.length * Y.msg.size=(mc xs).length from(kj xs).symm,List.take_left]⟩⟩,P9 xs,rfl⟩
theorem Dh{P:Program}(w:World)(base:Nat)(t tn ty e:TypeId)(kq kn:IntKind){z:Value}{size bytes:Nat}(fU:(P.info? e).map (λi=>(i.zero,i.size,i.bytes))=some (some z,size,bytes))(ht:P.underlying t=some (.slice e))(kH:P.underlying tn=some (.int kn))
 (nZ:z.cells.size=size)(fM:0<size)(g n cap:Nat)(xs:List Value)(cG:w.ownsRow base e size (.slice g n cap) n xs)(k:Nat)(h0:0<k)(news:List Value)(lZ:(Builtin.zeroCells z.cells k).toList=news)(F:∀u∈news,u.oneCell'=true)
 (Aj:n+k<=maxLen)(jf:(n+k) * bytes<=140737488355328)(ko:base<=w.1.size)(rG:cap<n+k):
 ∃c' w',(Builtin.append_ #[t,tn] ty #[.slice g n cap,.int kq k]).run P w=.ok (.slice w.1.size (n+k) c') w'/\w'.ownsRow base e size (.slice w.1.size (n+k) c') (n+k) (xs++news)/\aY w w':=by
 obtain⟨v',w',hr,R,h3,h4⟩:=mM (P:=P) w base t tn ty e kq kn fU ht kH nZ fM _ n xs cG k h0 news lZ F Aj jf ko;obtain⟨i,hi,hz,rfl,rfl⟩:=mC fU;have Vd:n+k<=9223372036854775807:=by simp only[maxLen] at Aj;omega
 have hkb:k * i.bytes<=(n+k) * i.bytes:=vX _ (by omega);have holds:∀j u,xs[j]?=some u->w.cell? ((⟨g,0,none⟩:Addr).add j)=some u:=cG.cells (g:=g) rfl;have hold:=run_firstCells_some (P:=P) w.drew i.size n ⟨g,0,none⟩ n cap xs cG.1 (by simpa using holds);have ug:=Lib.run_append_grow_zeros (P:=P) w t tn ty e i z kq kn ht kH hi hz (some ⟨g,0,none⟩) n cap xs hold k h0 fM (by omega) (by omega) (by omega) (growslice_fits (by omega) jf);rw[hr] at ug;injection ug with e1 e2
 subst e1;refine⟨_,w',hr,R,?_⟩;rw[e2];exact cT.drew.alloc bE _
theorem vl(A:Option Addr)(c:Nat)(row:List (Int×Int))(i:Nat)(x:Int×Int)(ar B:Nat)(b:Option Nat)(w:World)(ct:Row Y.msg 141 B w b (.slice A row.length c) row)(hi:i<=row.length)(hn:row.length<=999999)(D:G w ar #[x.1,x.2] 141)(J:B<=w.1.size)(hbH:b≠some ar):
 Calls prog 196 #[.slice A row.length c,(i:Int),.slice ar 1 1] w λy w'=>∃u,y=.returned u/\Row Y.msg 141 B w' u.ownBlock u (lq row i x)/\w.grownBy w' b/\(u.ownBlock=b\/∃n,u.ownBlock=some n/\w.1.size<=n):=by
 obtain⟨n,j6⟩:=cJ row.length;rw[j6] at hi hn;have Fg:aM Y.msg false w 0 w.1.size (.slice ar 1 1) [x]:=(ay.vj (r:=Y.msg) (xs:=[x]) (S:=bO 0 w.1.size) D ⟨[_,_],[],rfl,rfl,rfl⟩ ⟨fH _,D.lt⟩ (by simp)).Mx;obtain⟨A9,c9,he,qX,oW⟩:=ct.form;injection he with e1 e2 e3
 subst e1 e3;clear e2;rw[j6] at qX ct;unfold maxLen at oW;simp only[j6];change aK _ at j6;by_cases iu:i=n
 ·subst iu;go_in;go_wp2_with (at_builtin;refine GW (r:=Y.msg) DJ rfl (.tmp 23) (.tmp 24) 93 rfl B 141 Tryz.qi underlying93 rfl (by omega) _ _ rfl ct J rfl Fg (by rw[j6.Z];simp;omega) ?_;intro v2 w2 b2 k1 k2 k3 k4;obtain⟨A8,c8,lz,_,_⟩:=k1.form;obtain⟨n8,lp⟩:∃n,(row++[x]).length=n:=⟨_,rfl⟩;rw[lp] at lz;have VF:=U lp;clear lp;subst lz);all_goals
   go_ret;have e9:lq row i x=row++[x]:=by unfold lq;rw[jL (by have:=j6.Z;omega),uI (by have:=j6.Z;omega)]
   rw[e9];exact⟨_,rfl,k1.own.1,k2,k4.elim (λe=> .inl (k1.own.2.trans e)) λ⟨n,e1,e2⟩=> .inr ⟨n,k1.own.2.trans e1,e2⟩⟩
 ·have bY:i<n:=by omega
  obtain⟨g,sl,hA,I,hBg,ga,qy,hnc,CJ,-⟩:=ct.blk (by have:=j6.Z;omega);rw[j6.Z] at hnc;subst hA I;have gg:=ga.lt;have hgH:g≠ar:=λe=>hbH (by rw[e]);have bq:((i:Int)==(n:Int))=false:=by simp;omega
  replace qy:=U qy;replace Fg:=U Fg;replace ct:=U ct;clear iu;have hd1:(mc row).length=n * 2:=by rw[kj,j6.Z]
  change aK _ at hd1;by_cases rG:n+1<=c
  ·have r1:¬((n:Int)+1>(c:Int)):=by omega
   have hci:¬(c=i):=by omega
   have acT:¬(c=i+1):=by omega
   have SB:∀(W:World)(lb cb:Nat),W.shape? ar=w.shape? ar->W.shape? g=w.shape? g->W.frozen? ⟨ar,0,none⟩=false->W.frozen? ⟨ar,2,none⟩=false->(callFunc 224 #[.slice ar 1 1,.slice (some ⟨g,(i+1) * 2,none⟩) lb cb]).run prog W=.ok (.value (.bool false)) W:=λW lb cb q1 q2 q3 q4=>by
    rw[run_callFunc_extern (fn:=Tryz.f224) rfl (by kernel_rfl) (by kernel_rfl) (by kernel_rfl) (e:=Extern.SlicesOverlaps.overlaps #[93,93] #[4]) (by kernel_rfl),Lib.run_overlaps_apart W 93 4 141 underlying93 2 (λw=>by kernel_rfl) ⟨ar,0,none⟩ ⟨g,(i+1) * 2,none⟩ 1 1 lb cb (fT hgH) 141 141 2 (mc row++sl).length (by rw[q1];unfold World.shape?;rw[D];rfl) (by rw[q2];unfold World.shape?;rw[ga];simp) (by have:=qy.Z;omega) q3 q4];rfl
   have YQ:=SB w;clear SB;have f2:w.frozen? ⟨ar,0,none⟩=false:=D.mO 0;have f3:w.frozen? ⟨ar,2,none⟩=false:=D.mO 2;have SB:=λlb cb=>YQ lb cb rfl rfl f2 f3;clear YQ f2 f3;go_in;have CO:=bI w.1.size w;go_upto_region 15 with(simp only[SB])
   clear SB;obtain⟨L,hL⟩:=cJ (mc row++sl);rw[hL] at ga qy;change aK _ at hL;refine dr 0 (by kernel_rfl) λW1 hW=>?_;have I:aY w W1:=hW▸cT.drew;have K:=Ext.refl W1;clear hW;refine Ru I CO ?_;clear I CO;intro z1 CO;refine aG [1,2] 7 ?_;go_wp2;refine tJ 3 ?_;refine aG [0,4,5,6,7] 1 ?_;go_wp2;refine oJ 8 ?_;have rZ:=ga.next CO;have hlen:=qy.Z;have wV:=kj (row.drop i);have FK:(row.drop i).length=n-i:=by rw[iQ,j6.Z]
   rw[FK] at wV;replace wV:=U wV;replace hlen:=U hlen;clear FK;have Jp:∀j v,(mc (row.drop i))[j]?=some v->W1.cell? ((⟨g,i * 2,none⟩:Addr).add j)=some v:=λj v hj=>by
    rw[kB,aD rZ];rw[<-FJ,vZ] at hj;have rY:i * 2+j<(mc row).length:=(eD.1 hj).1;rw[dY,<-hL.Z,lF rY];exact hj
   change aK _ at Jp;go_wp2_with (refine fQ rfl (.tmp 73) (.tmp 76) 93 93 rfl 141 2 underlying93 (by kernel_rfl) g ((i+1) * 2) _ _ ⟨g,i * 2,none⟩ _ _ (n-i) rfl rfl (by simp only[Nat.min_def];split<;>omega) L.toArray 141 rZ (mc (row.drop i)) (by rw[wV.Z]) Jp.Z (by rw[wV.Z];simp;have:=hlen.Z;omega) (Qc _) ?_;intro W9 k1 k2 k3);first |change aV _ _ _ _ _ _ _ _ _ _|refine⟨λh=>absurd h (by decide),?_⟩
   refine eN ?_;obtain⟨L1,hL1⟩:=cJ (List.take ((i+1) * 2) L++mc (List.drop i row)++List.drop ((i+1) * 2+(mc (List.drop i row)).length) L);rw[hL1] at k1;change aK _ at hL1;have hxH:G W9 ar #[x.1,x.2] 141:=(k2 ar (fT hgH)).trans ((CO.block ar D.lt).trans D);have Fo:L1.length=c * 2:=by rw[<-hL1.Z];simp only[dh,dL,iQ,wV.Z];have:=hlen.Z;omega
   change aK _ at Fo;have Qd:∀(j:Nat)(v:Value),[Value.int .i64 x.1,x.2][j]?=some v->W9.cell? ((⟨ar,0,none⟩:Addr).add j)=some v:=λj v hj=>by
    rw[kB,aD hxH,iR,dY];exact hj
   change aK _ at Qd;go_wp2_with (refine fQ rfl (.tmp 80) (.tmp 81) 93 93 rfl 141 2 underlying93 (by kernel_rfl) g (i * 2) _ _ ⟨ar,0,none⟩ _ _ 1 rfl rfl (by simp only[Nat.min_def];split<;>omega) L1.toArray 141 k1 [x.1,x.2] rfl Qd.Z (by simp;have:=Fo.Z;omega) (by intro v hv;simp at hv;rcases hv with rfl |rfl<;>rfl) ?_;intro uj q1 q2 q3);go_ret;have qZ:=Qb x hL.Z j6.Z bY hlen.Z rG hL1.symm;have q1b:G uj g (mc (lq row i x)++L.drop ((n+1) * 2)).toArray 141:=by unfold G;rw[<-qZ];simpa using q1
   have pd:(lq row i x).length=n+1:=by unfold lq;have:=j6.Z;simp;omega
   have im:=Row.mk_ (B:=B) (c:=c) q1b hBg (by rw[dh,kj,pd,iQ];have:=hlen.Z;omega) (by omega) CJ;rw[pd] at im;refine⟨_,rfl,im,⟨?_,?_,?_,?_,λb I fz=>?_⟩,.inl rfl⟩
   ·exact q3.os.trans (k3.os.trans CO.os)
   ·exact q3.tape.trans (k3.tape.trans CO.tape)
   ·exact q3.output.trans (k3.output.trans CO.output)
   ·exact bT CO.size (bT k3.size q3.size)
   ·have hbg:b≠g:=λe=>fz (by rw[e]);exact(q2 b hbg).trans ((k2 b hbg).trans (CO.block b I))
  ·have r1:(n:Int)+1>(c:Int):=by omega
   obtain⟨k,Q⟩:=cJ (n+1-i);have Ph:(n:Int)+1-(i:Int)=(k:Int):=by omega
   have ma:0<k:=by omega
   have qh:i+k=n+1:=by omega
   obtain⟨L,hL⟩:=cJ (mc row++sl);rw[hL] at ga qy;change aK _ at hL;clear Q;have cG:w.ownsRow B 141 2 (.slice g i c) i (mc (row.take i)):=⟨by rw[kj,dL,j6.Z];omega,.inr ⟨g,c,_,rfl,hBg,ga,by omega,CJ,by simpa using qy.Z,by rw[List.toList_toArray,<-hL.Z,xu (by rw[kj,j6.Z];omega),FH]⟩⟩;obtain⟨c2,W2,hr,ho,dO⟩:=Dh (P:=prog) w B 93 3 93 141 .i64 .i64 Tryz.qi underlying93 underlying3 rfl (by omega) g i c _ cG k ma _ rfl (VI k) (by unfold maxLen;omega) (by omega) J (by omega);have Nb:∃cur:List Value,G W2 w.1.size cur.toArray 141/\cur.length=c2 * 2/\i+k<=c2/\c2<=maxLen/\cur.take ((n+1) * 2)=mc (row.take i)++(Builtin.zeroCells (Value.agg #[aP,aP]).cells k).toList:=by
    rcases ho.2 with⟨e,_⟩|⟨g9,cap,cu,he,_,hh,q1,q2,q3,q4⟩
    ·cases e
    ·injection he with e1 e2 e3;injection e1 with e1;injection e1 with e1;subst e1 e3
     exact⟨cu.toList,by simpa[G] using hh,by simpa using q3,q1,q2,by rw[<-qh];exact q4⟩
   obtain⟨cur,hcb,nN,hc2a,hc2b,Nc⟩:=Nb;replace nN:=U nN;replace Nc:=U Nc;change aK _ at qh;replace hr:=U hr;clear ho cG;have hci:¬(c2=i):=by omega
   have acT:¬(c2=i+1):=by have:=qh.Z;omega
   have MC:1<=k:=ma;have Xv:i+1<=i+k:=by omega
   go_in;go_upto_region 10 with(at_builtin;refine Lib.wpList_append_run w rfl (.tmp 34) (.tmp 39) 93 3 rfl _ _ rfl rfl _ _ hr.Z ?_)
   have hxH:G W2 ar #[x.1,x.2] 141:=D.next dO;have aij:w.1.size≠ar:=λe=>by have:=D.lt;omega
   have Qd:∀(j:Nat)(v:Value),[Value.int .i64 x.1,x.2][j]?=some v->W2.cell? ((⟨ar,0,none⟩:Addr).add j)=some v:=λj v hj=>by
    rw[kB,aD hxH,iR,dY];exact hj
   change aK _ at Qd;go_upto_region 11 with(refine fQ rfl (.tmp 43) (.tmp 44) 93 93 rfl 141 2 underlying93 (by kernel_rfl) w.1.size (i * 2) _ _ ⟨ar,0,none⟩ _ _ 1 rfl rfl (by simp only[Nat.min_def];split<;>omega) cur.toArray 141 hcb [x.1,x.2] rfl Qd.Z (by simp;have:=nN.Z;omega) (by intro v hv;simp at hv;rcases hv with rfl |rfl<;>rfl) ?_;intro W3 k1 k2 k3)
   obtain⟨C1,hC1⟩:=cJ (cur.take (i * 2)++[.int .i64 x.1,.int .i64 x.2]++cur.drop (i * 2+2));have k1b:G W3 w.1.size C1.toArray 141:=by unfold G;rw[<-hC1];simpa using k1
   change aK _ at hC1;clear k1;have CO:aY w W3:=dO.trans k3;have hBd:=bI W3.1.size W3;have hw3:w.1.size<W3.1.size:=k1b.lt;refine dr 0 (by kernel_rfl) λW4 hW=>?_;have I:aY W3 W4:=hW▸cT.drew;have K:=Ext.refl W4;clear hW;refine lW I hBd CO ?_;clear I hBd CO;intro z4 hBd CO;refine aG [1,2] 7 ?_;go_wp2;refine tJ 3 ?_;refine aG [0,4,5,6,7] 1 ?_;go_wp2;refine oJ 8 ?_;have rZ:=k1b.next hBd;have o7:G W4 g L.toArray 141:=ga.next CO;have hlen:=qy.Z;have wV:=kj (row.drop i);have FK:(row.drop i).length=n-i:=by rw[iQ,j6.Z]
   rw[FK] at wV;replace wV:=U wV;replace hlen:=U hlen;clear FK;have Fo:C1.length=c2 * 2:=by rw[<-hC1.Z];simp only[dh,dL,iQ,fF,nj];have:=nN.Z;omega
   change aK _ at Fo;have Jp:∀j v,(mc (row.drop i))[j]?=some v->W4.cell? ((⟨g,i * 2,none⟩:Addr).add j)=some v:=λj v hj=>by
    rw[kB,aD o7];rw[<-FJ,vZ] at hj;have rY:i * 2+j<(mc row).length:=(eD.1 hj).1;rw[dY,<-hL.Z,lF rY];exact hj
   change aK _ at Jp;go_wp2_with (refine fQ rfl (.tmp 50) (.tmp 53) 93 93 rfl 141 2 underlying93 (by kernel_rfl) w.1.size ((i+1) * 2) _ _ ⟨g,i * 2,none⟩ _ _ (n-i) rfl rfl (by have:=qh.Z;simp only[Nat.min_def];split<;>omega) C1.toArray 141 rZ (mc (row.drop i)) (by rw[wV.Z]) Jp.Z (by rw[wV.Z];simp;have:=Fo.Z;have:=qh.Z;omega) (Qc _) ?_;intro W9 q1 q2 q3);first |change aV _ _ _ _ _ _ _ _ _ _|refine⟨λh=>absurd h (by decide),?_⟩
   refine eN ?_;go_wp2;go_ret;obtain⟨C2,VJ⟩:=cJ (C1.take ((i+1) * 2)++mc (row.drop i)++C1.drop ((i+1) * 2+(mc (row.drop i)).length));have qZ:=Sz x j6.Z bY Nc.Z (by have:=nN.Z;have:=qh.Z;omega) hC1.symm VJ.symm;have q1b:G W9 w.1.size (mc (lq row i x)++cur.drop ((n+1) * 2)).toArray 141:=by unfold G;rw[<-qZ,<-VJ];simpa using q1
   have pd:(lq row i x).length=n+1:=by unfold lq;have:=j6.Z;simp;omega
   have im:=Row.mk_ (B:=B) (c:=c2) q1b J (by rw[dh,kj,pd,iQ];have:=nN.Z;have:=qh.Z;omega) (by have:=qh.Z;omega) hc2b;rw[pd,<-qh.Z] at im;have RD:=CO.trans q3;exact⟨_,rfl,im,⟨RD.os,RD.tape,RD.output,RD.size,λb I _=>RD.block b I⟩,.inr ⟨_,rfl,bE⟩⟩
def rl(x y:Int):Int:=if x<y then -1 else if y<x then 1 else 0
def ahead(row:List (Int×Int))(s:Int):Nat:=(row.takeWhile λx=>decide (x.1<s)).length
def zd(row:List (Int×Int)):Prop:=row.Pairwise λa b=>a.1<b.1
theorem FL{row:List (Int×Int)}(h:zd row){i j:Nat}{x y:Int×Int}(D:row[i]?=some x)(hy:row[j]?=some y)(PD:i<j):x.1<y.1:=by
 obtain⟨F,rfl⟩:=eD.1 D;obtain⟨R,rfl⟩:=eD.1 hy;exact List.pairwise_iff_getElem.1 h i j F R PD
theorem Qe{row:List (Int×Int)}{s:Int}{i:Nat}(F:∀(k:Nat)(x:Int×Int),k<i->row[k]?=some x->x.1<s)(R:∀(k:Nat)(x:Int×Int),i<=k->row[k]?=some x->s<=x.1)(hi:i<=row.length):ahead row s=i:=by
 induction row generalizing i with
 |nil=>simp at hi;subst hi;rfl
 |cons y l ih=>
  unfold ahead at ih⊢;cases i with
  |zero=>
   have:=R 0 y bE rfl;rw[EM (by simp;omega)];rfl
  |succ i=>
   have:=F 0 y (by omega) rfl;rw[EL (by simp;omega),fF,ih (i:=i) (λk x Q D=>F (k+1) x (Nat.succ_lt_succ Q) (by simpa using D)) (λk x Q D=>R (k+1) x (Nat.succ_le_succ Q) (by simpa using D)) (by simpa using hi)]
theorem SC{row:List (Int×Int)}{s:Int}{i:Nat}(hr:zd row)(F:∀(k:Nat)(x:Int×Int),k<i->row[k]?=some x->x.1<s)(R:∀(k:Nat)(x:Int×Int),i<=k->row[k]?=some x->s<=x.1):
 row.any (λx=>decide (x.1=s))=(match row[i]? with |some x=>x.1==s|none=>false):=by
 cases D:row[i]? with
 |none=>
  dsimp only;rw[uL];intro y hy;obtain⟨k,Q,rfl⟩:=m5 hy;have MC:k<i:=by have:=List.getElem?_eq_none_iff.1 D;omega
  have:=F k _ MC (eu Q);simp;omega
 |some x=>
  dsimp only;cases hq:(x.1==s) with
  |true=>exact qI.2 ⟨x,dV D,by simpa using hq⟩
  |false=>
   rw[uL];intro y hy;obtain⟨k,Q,rfl⟩:=m5 hy;have Gp:=eu Q;have iF:=R i x bE D;have fz:x.1≠s:=by simpa using hq
   rcases Nat.lt_trichotomy k i with h|h|h
   ·have:=F k _ h Gp;simp;omega
   ·subst h;rw[Gp] at D;cases D;simpa using fz
   ·have:=FL hr D Gp h;simp;omega
theorem Ee(x:Int)(w:World):Calls prog 223 #[x] w λy w'=>y=.returned (.bool false)/\w=w':=by
 go_in;go_wp2;go_ret;exact⟨by simp,rfl⟩
theorem yC(x z:Int)(w:World):Calls prog 195 #[x,z] w λy w'=>y=.returned (.int .i64 (rl x z))/\w=w':=by
 go_in;go_wp2_with fail;refine(Ee x _).mono ?_;rintro e w1 ⟨rfl,rfl⟩;go_wp2_with fail;refine(Ee z _).mono ?_;rintro e w1 ⟨rfl,rfl⟩;by_cases F:x<z
 ·have HR:aK (rl x z=-1):=U (by unfold rl;rw[aS F]);go_wp2;go_ret;exact⟨by rw[HR.Z];rfl,rfl⟩
 ·by_cases R:z<x
  ·have HR:aK (rl x z=1):=U (by unfold rl;rw[aO F,aS R]);go_wp2;go_ret;exact⟨by rw[HR.Z];rfl,rfl⟩
  ·have HR:aK (rl x z=0):=U (by unfold rl;rw[aO F,aO R]);go_wp2;go_ret;exact⟨by rw[HR.Z];rfl,rfl⟩
theorem Ef(x:Int×Int)(s:Int)(w:World):
 Calls prog 194 #[.agg #[x.1,x.2],s] w λy w'=>y=.returned (.int .i64 (rl x.1 s))/\aY w w':=by
 go_in;go_upto_region 1 with fail
 refine jt λW1 bx I=>?_;have uD:=bx.lt;have J:=I;have z1:=I.size;clear I;have O:=ch bx;go_wp2_with fail;refine(yC x.1 s _).mono ?_;rintro e w9 ⟨rfl,rfl⟩;go_wp2;go_ret;exact⟨rfl,J⟩
theorem Hz(v:Value)(row:List (Int×Int))(s:Int)(w:World)(S:Nat->Prop)(hS:∀b,S b->b<w.1.size)(h:ay Y.msg false w S v row)(hr:zd row)(hn:row.length<=1000000):
 Calls prog 193 #[v,s,.func (.func 194) #[] #[]] w λy w'=>y=.returned (.tuple #[(ahead row s:Int),.bool (row.any λx=>decide (x.1=s))])/\aY w w':=by
 obtain⟨A,c,rfl,hl,hm,hA⟩:=h;unfold maxLen at hm;replace hA:=U hA;replace hr:=U hr;change aK _ at hS;go_in;go_wp2;go_loopg [9,10,11] row.length (λq i j _ wr=>∃(a b:Nat),i=.int .i64 (a:Int)/\j=.int .i64 (b:Int)/\a<=b/\b<=row.length/\q=b-a/\(∀(k:Nat)(x:Int×Int),k<a->row[k]?=some x->x.1<s)/\(∀(k:Nat)(x:Int×Int),b<=k->row[k]?=some x->s<=x.1)/\aY w wr)
 case atStart=>exact⟨0,row.length,rfl,rfl,by omega,by omega,by omega,λk x Q=>absurd Q (jO _),λk x Q D=>by have:=(eD.1 D).1;omega,cT⟩
 case round=>
  obtain⟨a,b,rfl,rfl,Ui,I,Q,F,R,J⟩:=hrel;have H1:=U F;clear F;have H2:=U R;clear R;change aK _ at Q;by_cases bY:a<b
  ·obtain⟨m,Bl⟩:=cJ ((a+b) / 2);have lu:a<=m:=by omega
   have xH:m<b:=by omega
   obtain⟨x,D⟩:=Pc.get_at (show m<row.length by omega);obtain⟨g,o,hAe,hg,c0,c1⟩:=dm.yY (hA.aE (dx hS J)) D;have gg:g<wr.1.size:=aU (hS g hg) J.size;subst hAe;replace D:=U D;go_wp2_with fail;refine(Ef x s _).mono ?_;rintro e w1 ⟨rfl,ee⟩;clear c0 c1 gg;have qU:=J.trans (ee.mono J.size);have XD:((a:Int)+(b:Int)) / 2=(m:Int):=by omega
   change aK _ at XD;by_cases hc:x.1<s
   ·have q1:rl x.1 s<0:=by unfold rl;rw[aS hc];decide
    go_wp2;go_roundg (b-(m+1))
    case rel=>exact⟨m+1,b,by rw[XD.Z];simp,rfl,by omega,by omega,rfl,λk y wD hy=>by
     rcases pQ k m with q|q
     ·have:=FL hr.Z hy D.Z q;omega
     ·have:k=m:=by omega
      subst this;rw[D.Z] at hy;cases hy;exact hc,
     H2.Z,qU⟩
    case measure=>have:=Q.Z;omega
   ·have q1:¬rl x.1 s<0:=by unfold rl;rw[aO hc];split<;>decide
    go_wp2;go_roundg (m-a)
    case rel=>exact⟨a,m,rfl,by rw[XD.Z],by omega,by omega,rfl,H1.Z,λk y wD hy=>by
     rcases pQ m k with q|q
     ·have:=FL hr.Z D.Z hy q;omega
     ·have:k=m:=by omega
      subst this;rw[D.Z] at hy;cases hy;omega,
     qU⟩
    case measure=>have:=Q.Z;omega
  ·obtain rfl:a=b:=by omega
   have HR:aK (ahead row s=a):=U (Qe H1.Z H2.Z I);have HQ:aK ((row.any λx=>decide (x.1=s))=_):=U (SC hr.Z H1.Z H2.Z);by_cases DH:a<row.length
   ·obtain⟨x,D⟩:=Pc.get_at DH;obtain⟨g,o,hAe,hg,c0,c1⟩:=dm.yY (hA.aE (dx hS J)) D;have gg:g<wr.1.size:=aU (hS g hg) J.size;subst hAe;replace D:=U D;go_wp2_with fail;refine(Ef x s _).mono ?_;rintro e w1 ⟨rfl,ee⟩;clear c0 c1 gg;have qU:=J.trans (ee.mono J.size);have q9:(rl x.1 s==0)=(x.1==s):=by unfold rl;by_cases F:x.1<s<;>by_cases R:s<x.1<;>simp[F,R]<;>omega
    change aK _ at q9;have e2:(row.any λx=>decide (x.1=s))=(rl x.1 s==0):=by rw[HQ.Z,D.Z];exact q9.symm
    change aK _ at e2;go_wp2;go_ret2;exact⟨by rw[HR.Z,e2.Z];rfl,qU⟩
   ·have xm:row[a]?=none:=uJ (by omega);change aK _ at xm;go_wp2;go_ret2;exact⟨by rw[HR.Z,HQ.Z,xm.Z];rfl,J⟩
theorem SD(m:Int×Int)(row:List (Int×Int)):V.vg m row=lq row (ahead row m.1) m:=by
 unfold V.vg lq ahead;have h:∀(p:Int×Int->Bool)(l:List (Int×Int)),l.take (l.takeWhile p).length=l.takeWhile p/\l.drop (l.takeWhile p).length=l.dropWhile p:=by
  intro p l;induction l with
  |nil=>simp
  |cons y l ih=>
   cases h:p y with
   |true=>rw[EL h,List.dropWhile_cons_of_pos h];simp[ih.1,ih.2]
   |false=>rw[EM (by simp[h]),List.dropWhile_cons_of_neg (by simp[h])];simp
 rw[(h _ row).1,(h _ row).2]
theorem Qf(row:List (Int×Int))(s:Int):ahead row s<=row.length:=by
 unfold ahead;have:=fS List.length (List.takeWhile_append_dropWhile (p:=λx:Int×Int=>decide (x.1<s)) (l:=row));rw[dh] at this;omega
theorem cU{w:World}{g:Nat}(i:Nat)(u:Value):w.grownBy (w.setCell ⟨g,i,none⟩ u) (some g):=
 ⟨rfl,rfl,rfl,by simp[World.setCell],λk Q fz=>dF _ _ _ _ (by rintro rfl;exact fz rfl)⟩
theorem nI{w:World}{S:Nat->Prop}:da Y.ho w S (.agg #[aP,aP,aP,(),()]) V.mS:=⟨[_,_,_,_,_],rfl,_,_,rfl,ay.none_,ay.none_⟩
theorem Eg(va vh:Value)(a:Ap)(h:Hu.Host)(link:Nat)(m:Int×Int)(w:World)(S:Nat->Prop)(hS:∀b,S b->b<w.1.size)(ha:da Y.ap w S va a)(hh:da Y.ho w S vh h)(hL:a.az.length<=1000)(hlen:h.bD.length=(Gr.ins a.az h.node).length)(hs:h.sized)(ct:∀x∈h.bD,x.length<=999999/\zd x)(YR:link<a.az.length)(gw:0<=h.steps/\h.steps<=1000000):
 Calls prog 149 #[va,vh,(link:Int),.agg #[m.1,m.2]] w λy w'=>(∃u,y=.returned (.tuple #[u,.int .i64 (V.jX a h link m).1])/\da Y.ho w' (bO w.1.size w'.1.size) u (V.jX a h link m).2)/\aY w w':=by
 obtain⟨nD,mU,mV,mm,rfl,kX,lM⟩:=ha.ap;obtain⟨gD,D',ma,uu,rfl,hh0,hh1⟩:=hh.ho;obtain⟨hl,hm⟩:=hh0.bounds;obtain⟨lx,RE⟩:=Pc.get_at YR;obtain⟨hst1,Fz⟩:=gw;obtain⟨DH,xH⟩:=kX.bounds;change aK _ at hlen ct hS;replace hs:=U hs;replace RE:=U RE;go_in;go_upto_region 1 with fail
 refine nW4 λW1 ba bh bm br I=>?_;have uD:=br.lt;have J:=I;have z1:=I.size;clear I;have O:=ld ba bh bm br;go_wp2_with fail;refine(mF a.n h.node _ a.az _ (kX.zero hS.Z J) (bT hL (by omega))).mono ?_;clear O;rintro e w2 ⟨⟨u,rfl,hu⟩,I⟩;refine lD I ba bh bm br J ?_;clear I ba bh bm br J;intro z2 ba bh bm br J;obtain⟨uA,uk,rfl,_⟩:=id hu;have HU:=U hu;clear hu;have O:=ld ba bh bm br;go_wp2_with fail;have hu:=HU.aF (fH _) bE;refine(iG _ (link:Int) _ _ hu).mono ?_;clear O;rintro e w3 ⟨rfl,I⟩;refine lD I ba bh bm br J ?_;clear I ba bh bm br J;intro z3 ba bh bm br J;clear hu;obtain⟨i,hi⟩:=cJ (Pc.idx (λy=>decide (y=(link:Int))) (Gr.ins a.az h.node));rw[hi];change aK _ at hi;by_cases g0:i<0
 ·have HR:aK (V.jX a h link m=(1,V.mS)):=U (by unfold V.jX V.place;dsimp only;rw[hi.Z];rw[aS (by left;exact g0)]);have O:=ld ba bh bm br;go_wp2;have hP:=aI (b:=w.1.size+1+1+1) (by omega) [aP,aP,aP,(),()] 0 _ J;refine bL (v:=.tuple #[.agg #[aP,aP,aP,(),()],.int .i64 1]) (by simp[results,results149,go_sem,O]) rfl ?_;refine⟨⟨_,by rw[HR.Z],?_⟩,hP⟩;rw[HR.Z];exact nI
 ·by_cases g1:m.1<1
  ·have HR:aK (V.jX a h link m=(1,V.mS)):=U (by unfold V.jX V.place;dsimp only;rw[hi.Z];rw[aS (by right;left;exact g1)]);have O:=ld ba bh bm br;go_wp2;have hP:=aI (b:=w.1.size+1+1+1) (by omega) [aP,aP,aP,(),()] 0 _ J;refine bL (v:=.tuple #[.agg #[aP,aP,aP,(),()],.int .i64 1]) (by simp[results,results149,go_sem,O]) rfl ?_;refine⟨⟨_,by rw[HR.Z],?_⟩,hP⟩;rw[HR.Z];exact nI
  ·by_cases g2:500<m.1
   ·have HR:aK (V.jX a h link m=(1,V.mS)):=U (by unfold V.jX V.place;dsimp only;rw[hi.Z];rw[aS (by right;right;left;exact g2)]);have O:=ld ba bh bm br;go_wp2;have hP:=aI (b:=w.1.size+1+1+1) (by omega) [aP,aP,aP,(),()] 0 _ J;refine bL (v:=.tuple #[.agg #[aP,aP,aP,(),()],.int .i64 1]) (by simp[results,results149,go_sem,O]) rfl ?_;refine⟨⟨_,by rw[HR.Z],?_⟩,hP⟩;rw[HR.Z];exact nI
   ·by_cases g3:m.2<0
    ·have HR:aK (V.jX a h link m=(1,V.mS)):=U (by unfold V.jX V.place;dsimp only;rw[hi.Z];rw[aS (by right;right;right;left;exact g3)]);have O:=ld ba bh bm br;go_wp2;have hP:=aI (b:=w.1.size+1+1+1) (by omega) [aP,aP,aP,(),()] 0 _ J;refine bL (v:=.tuple #[.agg #[aP,aP,aP,(),()],.int .i64 1]) (by simp[results,results149,go_sem,O]) rfl ?_;refine⟨⟨_,by rw[HR.Z],?_⟩,hP⟩;rw[HR.Z];exact nI
    ·by_cases g4:4<=m.2
     ·have HR:aK (V.jX a h link m=(1,V.mS)):=U (by unfold V.jX V.place;dsimp only;rw[hi.Z];rw[aS (by right;right;right;right;exact g4)]);have O:=ld ba bh bm br;go_wp2;have hP:=aI (b:=w.1.size+1+1+1) (by omega) [aP,aP,aP,(),()] 0 _ J;refine bL (v:=.tuple #[.agg #[aP,aP,aP,(),()],.int .i64 1]) (by simp[results,results149,go_sem,O]) rfl ?_;refine⟨⟨_,by rw[HR.Z],?_⟩,hP⟩;rw[HR.Z];exact nI
     ·obtain⟨j,hj,wC⟩:=mH (b:=λy=>decide (y=(link:Int))) (l:=Gr.ins a.az h.node) (by rw[hi.Z];omega);obtain rfl:i=(j:Int):=hi.symm.trans hj;clear hj;have YH:j<h.bD.length:=by have:=hlen.Z;omega
      obtain⟨row,pf⟩:=Pc.get_at YH;obtain⟨Sy,CK⟩:=ct row (dV pf);replace CK:=U CK;replace pf:=U pf;have MD:¬((j:Int)<0\/m.1<1\/500<m.1\/m.2<0\/4<=m.2):=by omega
      replace MD:=U MD;have O:=ld ba bh bm br;go_upto_region 4 with fail
      clear g0 g1 g2 g3 g4;clear O;refine dr 128 (by kernel_rfl) λW4 hW=>?_;have I:aY w3 W4:=hW▸cT.drew;have K:=Ext.refl W4;clear hW;refine lD I ba bh bm br J ?_;clear I ba bh bm br J;intro z4 ba bh bm br J;obtain⟨g,o,B,c,hA,hg,c0,Jp⟩:=(hh0.aE (dx hS J)).arr.row pf.Z;have gg:g<W4.1.size:=aU (hS g hg) J.size;replace Jp:=U Jp;subst hA;have HBW:=U J;have O:=ld ba bh bm br;refine aG [0,1,2,3,4,5,6] 6 ?_;go_wp2;clear O;refine oJ 7 ?_;go_wp2_with fail;refine(Hz _ row m.1 _ S (j2 hS J.size) Jp.Z CK.Z (by omega)).mono ?_;rintro e w5 ⟨rfl,I⟩;refine xl I ba bh bm br K J ?_;clear I ba bh bm br K J;intro z5 ba bh bm br K J;clear c0 gg;go_wp2;refine⟨λ_=>K,?_⟩;refine aG [8,9,10,11,12] 0 ?_;go_wp2;refine eJ ?_;cases hfo:row.any λx=>decide (x.1=m.1)
      case true=>
       change aK _ at hfo;have HR:aK (V.jX a h link m=(1,V.mS)):=U (by unfold V.jX V.place;dsimp only;rw[hi.Z];rw[aO MD.Z,dG,dB,pf.Z];exact aS hfo.Z);have O:=ld ba bh bm br;go_wp2;have hP:=aI (b:=w.1.size+1+1+1) (by omega) [aP,aP,aP,(),()] 0 _ J;refine bL (v:=.tuple #[.agg #[aP,aP,aP,(),()],.int .i64 1]) (by simp[results,results149,go_sem,O]) rfl ?_;refine⟨⟨_,by rw[HR.Z],?_⟩,hP⟩;rw[HR.Z];exact nI
      case false=>
       change aK _ at hfo;have HR:aK (V.jX a h link m=(0,⟨h.node,Tb.taken a.T h.node h.state lx.1 m.2,h.steps+1,h.bD.set j (lq row (ahead row m.1) m),h.Z⟩)):=U (by unfold V.jX V.place;dsimp only;rw[hi.Z,aO MD.Z,dG,dB,pf.Z];refine(aO (by simpa using(tF.1 hfo.Z))).trans ?_;rw[dG,Gr.uz RE.Z,<-SD];rfl);obtain⟨p,hp⟩:=cJ (ahead row m.1);have rT:p<=row.length:=hp▸Qf _ _;rw[hp] at HR⊢;clear hp;have O:=ld ba bh bm br;go_wp2_with fail;refine(Hq _ h _ S (j2 hS J.size) (da.Jo (hh0.aE (dx hS J)) (hh1.aE (dx hS J))) hs.Z).mono ?_;clear O;rintro e w6 ⟨A1,k1,A2,k2,lo,rfl,pe,F,vi,I⟩;refine lD I ba bh bm br J ?_;clear I ba bh bm br J;intro z6 ba bh bm br J;replace F:=U F;have hO:=bI w6.1.size w6;go_upto_region 8 with fail
       refine jt λW7 bo I=>?_;have zl7:=bo.lt;refine xl I ba bh bm br hO J ?_;clear I ba bh bm br hO J;intro z7 ba bh bm br hO J;refine dr 0 (by kernel_rfl) λW8 hW=>?_;have I:aY W7 W8:=hW▸cT.drew;have K:=Ext.refl W8;clear hW;refine An I ba bh bm br bo hO J ?_;clear I ba bh bm br bo hO J;intro z8 ba bh bm br bo hO J;obtain⟨g2,c2,Au,cu,he,Gg,hg2l,cr,crf,qC,mZ,oZ,HK⟩:=F.Hw hO pf.Z;replace HK:=U HK;injection he with ur r' OK;subst ur OK;clear r'
       replace mZ:=U mZ;replace oZ:=U oZ;replace qC:=U qC;have O:=Jl ba bh bm br bo;refine aG [3,4,5,6,7,8,9] 7 ?_;go_wp2;clear O;refine tJ 0 ?_;refine tK 2 ?_;refine tW 1 10 ?_ ?_;focus
        have O:=Jl ba bh bm br bo;go_wp2;clear O;first |change aV _ _ _ _ _ _ _ _ _ _|refine⟨λh=>absurd h (by decide),?_⟩
        refine aG [10] 3 ?_;go_wp2;refine oJ 11 ?_;go_wp2_with fail;refine Yi λWq D Jq=>?_;refine(vl _ _ row p m W8.1.size lo _ Wq (qC.next Jq) rT Sy D (by have:=Jq.size;omega) (λe=>by have:=(qC.lt e).2;omega)).mono ?_;rintro e w9 ⟨u,rfl,im,lE,YS⟩;obtain⟨A8,c8,lz,_,_⟩:=im.form;obtain⟨n8,lp⟩:=cJ ((lq row p m).length);rw[lp] at lz;change aK _ at lp;subst lz;have fh:=aN (aT Jq) lE;have CP:(Value.slice A8 n8 c8).ownBlock=(Value.slice Au row.length cu).ownBlock\/∃n,(Value.slice A8 n8 c8).ownBlock=some n/\W8.1.size<=n:=YS.elim .inl λ⟨n,e1,e2⟩=> .inr ⟨n,e1,bT Jq.size e2⟩;have fu:Below lo W8 w9:=⟨fh.os,fh.tape,fh.output,fh.size,λk Q=>fh.block k (by omega) λhe=>by have:=(oZ.Z k he.symm).1;omega⟩;go_wp2;first |change aV _ _ _ _ _ _ _ _ _ _|refine⟨λh=>absurd h (by decide),?_⟩
        have qB:=fh.size;replace ba:=ba.grown fh (λe=>by have:=oZ.Z _ e;omega);replace bh:=bh.grown fh (λe=>by have:=oZ.Z _ e;omega);replace bm:=bm.grown fh (λe=>by have:=oZ.Z _ e;omega);replace br:=br.grown fh (λe=>by have:=oZ.Z _ e;omega);replace bo:=bo.grown fh (λe=>by have:=oZ.Z _ e;omega);have RC:w9.cell? ⟨g2,j,none⟩=_:=(dy (fh.block g2 (show g2<W8.1.size by omega) λe=>mZ g2 e.symm rfl)).trans cr;have Df:w9.frozen? ⟨g2,j,none⟩=_:=(dU (fh.block g2 (show g2<W8.1.size by omega) λe=>mZ g2 e.symm rfl)).trans crf;have Dg:g2<w9.1.size:=by omega
        have pS:=J.trans (fu.mono (by omega));clear cr crf;have wU:=HK.Z _ _ w9 im fh CP;replace wU:=U wU;clear im;have O:=Jl ba bh bm br bo;refine aG [12,13] 0 ?_
       rotate_left;focus
        have O:=Jl ba bh bm br bo;go_wp2;first |change aV _ _ _ _ _ _ _ _ _ _|refine⟨λh=>absurd h (by decide),?_⟩
        clear O;refine tW 1 11 ?_ ?_;focus
         have O:=Jl ba bh bm br bo;go_wp2;clear O;first |change aV _ _ _ _ _ _ _ _ _ _|refine⟨λh=>absurd h (by decide),?_⟩
         refine oN 11 ?_;go_wp2_with fail;refine Yi λWq D Jq=>?_;refine(vl _ _ row p m W8.1.size lo _ Wq (qC.next Jq) rT Sy D (by have:=Jq.size;omega) (λe=>by have:=(qC.lt e).2;omega)).mono ?_;rintro e w9 ⟨u,rfl,im,lE,YS⟩;obtain⟨A8,c8,lz,_,_⟩:=im.form;obtain⟨n8,lp⟩:=cJ ((lq row p m).length);rw[lp] at lz;change aK _ at lp;subst lz;have fh:=aN (aT Jq) lE;have CP:(Value.slice A8 n8 c8).ownBlock=(Value.slice Au row.length cu).ownBlock\/∃n,(Value.slice A8 n8 c8).ownBlock=some n/\W8.1.size<=n:=YS.elim .inl λ⟨n,e1,e2⟩=> .inr ⟨n,e1,bT Jq.size e2⟩;have fu:Below lo W8 w9:=⟨fh.os,fh.tape,fh.output,fh.size,λk Q=>fh.block k (by omega) λhe=>by have:=(oZ.Z k he.symm).1;omega⟩;go_wp2;first |change aV _ _ _ _ _ _ _ _ _ _|refine⟨λh=>absurd h (by decide),?_⟩
         have qB:=fh.size;replace ba:=ba.grown fh (λe=>by have:=oZ.Z _ e;omega);replace bh:=bh.grown fh (λe=>by have:=oZ.Z _ e;omega);replace bm:=bm.grown fh (λe=>by have:=oZ.Z _ e;omega);replace br:=br.grown fh (λe=>by have:=oZ.Z _ e;omega);replace bo:=bo.grown fh (λe=>by have:=oZ.Z _ e;omega);have RC:w9.cell? ⟨g2,j,none⟩=_:=(dy (fh.block g2 (show g2<W8.1.size by omega) λe=>mZ g2 e.symm rfl)).trans cr;have Df:w9.frozen? ⟨g2,j,none⟩=_:=(dU (fh.block g2 (show g2<W8.1.size by omega) λe=>mZ g2 e.symm rfl)).trans crf;have Dg:g2<w9.1.size:=by omega
         have pS:=J.trans (fu.mono (by omega));clear cr crf;have wU:=HK.Z _ _ w9 im fh CP;replace wU:=U wU;clear im;have O:=Jl ba bh bm br bo;refine aG [12,13] 0 ?_
        rotate_left;focus
         go_wp2_with fail;refine Yi λWq D Jq=>?_;refine(vl _ _ row p m W8.1.size lo _ Wq (qC.next Jq) rT Sy D (by have:=Jq.size;omega) (λe=>by have:=(qC.lt e).2;omega)).mono ?_;rintro e w9 ⟨u,rfl,im,lE,YS⟩;obtain⟨A8,c8,lz,_,_⟩:=im.form;obtain⟨n8,lp⟩:=cJ ((lq row p m).length);rw[lp] at lz;change aK _ at lp;subst lz;have fh:=aN (aT Jq) lE;have CP:(Value.slice A8 n8 c8).ownBlock=(Value.slice Au row.length cu).ownBlock\/∃n,(Value.slice A8 n8 c8).ownBlock=some n/\W8.1.size<=n:=YS.elim .inl λ⟨n,e1,e2⟩=> .inr ⟨n,e1,bT Jq.size e2⟩;have fu:Below lo W8 w9:=⟨fh.os,fh.tape,fh.output,fh.size,λk Q=>fh.block k (by omega) λhe=>by have:=(oZ.Z k he.symm).1;omega⟩;go_wp2;first |change aV _ _ _ _ _ _ _ _ _ _|refine⟨λh=>absurd h (by decide),?_⟩
         have qB:=fh.size;replace ba:=ba.grown fh (λe=>by have:=oZ.Z _ e;omega);replace bh:=bh.grown fh (λe=>by have:=oZ.Z _ e;omega);replace bm:=bm.grown fh (λe=>by have:=oZ.Z _ e;omega);replace br:=br.grown fh (λe=>by have:=oZ.Z _ e;omega);replace bo:=bo.grown fh (λe=>by have:=oZ.Z _ e;omega);have RC:w9.cell? ⟨g2,j,none⟩=_:=(dy (fh.block g2 (show g2<W8.1.size by omega) λe=>mZ g2 e.symm rfl)).trans cr;have Df:w9.frozen? ⟨g2,j,none⟩=_:=(dU (fh.block g2 (show g2<W8.1.size by omega) λe=>mZ g2 e.symm rfl)).trans crf;have Dg:g2<w9.1.size:=by omega
         have pS:=J.trans (fu.mono (by omega));clear cr crf;have wU:=HK.Z _ _ w9 im fh CP;replace wU:=U wU;clear im;have O:=Jl ba bh bm br bo;refine aG [1,12,13] 0 ?_
       all_goals
        go_wp2;refine eJ ?_;go_upto_region 9 with fail
        clear O;refine bK λVK hW=>?_;replace ba:=G.eqv hW (ba.dE (by omega) j _);replace bh:=G.eqv hW (bh.dE (by omega) j _);replace bm:=G.eqv hW (bm.dE (by omega) j _);replace br:=G.eqv hW (br.dE (by omega) j _);replace bo:=G.eqv hW (bo.dE (by omega) j _);have Gn:aY w VK:=hW▸pS.setCell (by show w.1.size<=g2;omega) _;clear J;have J:=Gn;clear Gn;have hz8:w9.1.size<=VK.1.size:=hW▸(by simp[World.setCell]);have h9:iY lo VK _ _ _ _:=hW▸wU.Z;replace h9:=U h9;clear hW RC Df Dg;have hG:=ka VK (some (w6.1.size));have VL:=U bo;refine dr 32768 (by kernel_rfl) λKE hW=>?_;have I:aY VK KE:=hW▸cT.drew;have K:=Ext.refl KE;clear hW;replace ba:=ba.next I;replace bh:=bh.next I;replace bm:=bm.next I;replace br:=br.next I;replace bo:=bo.next I;replace hG:=aN hG (aT I);refine Ru I J ?_;clear I J;intro z31 J;obtain⟨g5,o5,hA5,hg5,d0,d1⟩:=((kX.aE (dx hS J)).arr).yY RE.Z;have Ym:g5<KE.1.size:=aU (hS g5 hg5) J.size;subst hA5;have O:=Jl ba bh bm br bo;refine aG [0,1,2,3,4,5,6,7,8,9,10,11,12,13,14] 3 ?_;go_wp2;clear O;refine oJ 15 ?_;go_wp2_with fail;refine(J9 _ a.T h.node h.state lx.1 m.2 _ S (j2 hS J.size) (lM.aE (dx hS J))).mono ?_;rintro e Uj ⟨rfl,I⟩;replace ba:=ba.next I;replace bh:=bh.next I;replace bm:=bm.next I;replace br:=br.next I;replace bo:=bo.next I;replace hG:=aN hG (aT I);refine lW I K J ?_;clear I K J;intro z32 K J;clear d0 d1 Ym;go_wp2;refine⟨λ_=>K,?_⟩;have O:=Jl ba bh bm br bo;refine aG [16,17] 0 ?_;go_wp2;refine eJ ?_;go_upto_region 10 with fail
        clear O;refine bK λRF hW=>?_;replace ba:=G.eqv hW (ba.dE (by omega) 1 _);replace bh:=G.eqv hW (bh.dE (by omega) 1 _);replace bm:=G.eqv hW (bm.dE (by omega) 1 _);replace br:=G.eqv hW (br.dE (by omega) 1 _);replace bo:=G.eqv hW (bo.bd 1 _);simp only[eX,dK,dR] at bo;replace J:=Below.eqv hW (J.setCell (by show _<=w6.1.size;omega) _);have YT:Uj.1.size+0<=RF.1.size:=hW▸(by simp[World.setCell]);have Qg:VK.grownBy RF (some (w6.1.size)):=hW▸(aN hG (cU 1 _));clear hW hG;have hG:=Qg;clear Qg;have j8:(0:Int)<=h.steps:=hst1;have O:=Jl ba bh bm br bo;go_upto_region 11 with fail
        clear O;refine bK λW34 hW=>?_;replace ba:=G.eqv hW (ba.dE (by omega) 2 _);replace bh:=G.eqv hW (bh.dE (by omega) 2 _);replace bm:=G.eqv hW (bm.dE (by omega) 2 _);replace br:=G.eqv hW (br.dE (by omega) 2 _);replace bo:=G.eqv hW (bo.bd 2 _);simp only[eX,dK,dR] at bo;replace J:=Below.eqv hW (J.setCell (by show _<=w6.1.size;omega) _);have z34:RF.1.size+0<=W34.1.size:=hW▸(by simp[World.setCell]);have Qg:VK.grownBy W34 (some (w6.1.size)):=hW▸(aN hG (cU 2 _));clear hW hG;have hG:=Qg;clear Qg;have O:=Jl ba bh bm br bo;go_wp2;have hP:=aI (b:=w.1.size+1+1+1) (by omega) [h.node,.int .i64 (Tb.taken a.T h.node h.state lx.1 m.2),.int .i64 (h.steps+1),.slice g2 h.bD.length k1,.slice A2 h.Z.length k2] 0 _ J;refine bL (v:=.tuple #[.agg #[h.node,.int .i64 (Tb.taken a.T h.node h.state lx.1 m.2),.int .i64 (h.steps+1),.slice g2 h.bD.length k1,.slice A2 h.Z.length k2],aP]) (by simp[results,results149,go_sem,O]) rfl ?_;refine⟨⟨_,by rw[HR.Z],?_⟩,hP⟩;rw[HR.Z];have q9:=h9.other (w':=W34) (T:=109) (λb cur t ht I=>hG.block b (gm I) (λe=>eH I VL.Z ht (by injection e))) (by decide) (by decide) (by decide) (by decide);have q2:=q9.M6.soft.on;have q3:=q9.M7.soft.on;exact da.Jo (p:=⟨h.node,Tb.taken a.T h.node h.state lx.1 m.2,h.steps+1,h.bD.set j (lq row p m),h.Z⟩) (q2.fin (lo:=w.1.size) (g:=w.1.size+1+1+1) (by omega) (by omega) (by omega) [h.node,.int .i64 (Tb.taken a.T h.node h.state lx.1 m.2),.int .i64 (h.steps+1),.slice g2 h.bD.length k1,.slice A2 h.Z.length k2]) (q3.fin (lo:=w.1.size) (g:=w.1.size+1+1+1) (by omega) (by omega) (by omega) [h.node,.int .i64 (Tb.taken a.T h.node h.state lx.1 m.2),.int .i64 (h.steps+1),.slice g2 h.bD.length k1,.slice A2 h.Z.length k2])
end Go.Proofs.YtmgahjkopiaglaaGreat
