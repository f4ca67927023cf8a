/- Lemmas, walks and contracts by which the statement is proved. -/
import Derived.Test.YtmgahjkopiaglaaGreatK35
set_option maxRecDepth 100000
set_option maxHeartbeats 16000000
set_option linter.all false
namespace Go.Proofs.YtmgahjkopiaglaaGreat
open Go.RowKit Go.Proofs.Tryz
structure Dp(p:Pc.bG)(k:Nat):Prop where
 nd:0<=p.node/\p.node<=5
 s:p.aQ.length<=1000
 i:p.bD.length<=1000
 o:p.Z.length<=1000
 ir:∀r∈p.bD,r.length<=500+k
 or:∀r∈p.Z,r.length<=500
theorem Dp.mono{p:Pc.bG}{k k':Nat}(h:Dp p k)(Q:k<=k'):Dp p k':=⟨h.nd,h.s,h.i,h.o,λr q=>by have:=h.ir r q;omega,h.or⟩
theorem Dp.sized{p:Pc.bG}{k:Nat}(h:Dp p k)(Q:k<=1000):Pc.sized p:=
 ⟨by have:=h.s;omega,by have:=h.i;omega,by have:=h.o;omega,λr q=>by have:=h.ir r q;omega,λr q=>by have:=h.or r q;omega⟩
theorem Dp.right{p:Pc.bG}(h:Pc.right p=true)(k:Nat):Dp p k:=by
 unfold Pc.right Pc.sj at h;simp only[cQ,dC,eT] at h;refine⟨by omega,by omega,by omega,by omega,λx D=>?_,λx D=>?_⟩
 ·have:=Pc.uM x 0 (h.2.2.1 x D) (by omega);omega
 ·have:=h.2.2.2 x D;unfold Pc.wu at this;rw[cQ,dC] at this;omega
theorem Dp.zero(k:Nat):Dp V.jV k:=⟨by decide,by decide,by decide,by decide,λ_ q=>(by cases q),λ_ q=>(by cases q)⟩
structure j0(a:Ap)(N k i:Nat)(h:Hu.Host):Prop where
 nd:h.node=(i:Int)
 st:0<=h.state/\h.state<((a.T.getD i ⟨0,[]⟩).aL.length:Int)
 sp:0<=h.steps/\h.steps<=k
 bD:h.bD.length=(Gr.ins a.az i).length
 Z:h.Z.length=(Gr.outs a.az i).length
 ir:∀r∈h.bD,r.length<=k/\zd r
 or:∀r∈h.Z,r.length<=500
structure fL(a:Ap)(N k i:Nat)(x:Nd):Prop where
 h:j0 a N k i x.h
 mp:Dp x.m.p k
 mi:x.m.fj.length<=x.m.p.bD.length
 me:1<=x.m.aC->x.m.fj.length=x.h.bD.length
 mo:x.m.fj.length<=30
 up:Dp x.u.p k
 gl:x.jz.length<=6
 g:∀p∈x.jz,Dp p k
 kd:x.t.kids.length<=k
 wt:0<=x.t.wait/\x.t.wait<=30
 hd:0<=x.heard/\x.heard<=k
 sl:x.seen.length<=6
 tu:x.told<x.t.aC->x.t.up<(a.az.length:Int)
def pH(a:Ap)(Z:List (Int×Fr)):Prop:=∀o∈Z,Lk a o.1/\o.2.kind≠0
structure iV(a:Ap)(N k i:Nat)(w:Wk)(m:Nat):Prop where
 x:fL a N k i w.x
 o:pH a w.Z
 ol:w.Z.length<=m
 p:w.nC.length<=7
section
variable{a:Ap}{N k i m:Nat}{x:Nd}{h h':Hu.Host}{w:Wk}
theorem j0.mono{k':Nat}(h0:j0 a N k i h)(Q:k<=k'):j0 a N k' i h:=⟨h0.nd,h0.st,by have:=h0.sp;omega,h0.bD,h0.Z,λr q=>⟨by have:=(h0.ir r q).1;omega,(h0.ir r q).2⟩,h0.or⟩
theorem fL.mono{k':Nat}(h:fL a N k i x)(Q:k<=k'):fL a N k' i x:=
 ⟨h.h.mono Q,h.mp.mono Q,h.mi,h.me,h.mo,h.up.mono Q,h.gl,λp q=>(h.g p q).mono Q,by have:=h.kd;omega,h.wt,by have:=h.hd;omega,h.sl,h.tu⟩
theorem j0.sized(h0:j0 a N k i h)(ha:fy a N)(Q:k<=1000):h.sized:=
 ⟨by rw[h0.bD];have:=Mo (a:=a) (i:Int);have:=ha.L;omega,by rw[h0.Z];have:=th (a:=a) (i:Int);have:=ha.L;omega,λr q=>by have:=(h0.ir r q).1;omega,λr q=>by have:=h0.or r q;omega⟩
theorem j0.IL(h0:j0 a N k i h)(ha:fy a N):h.bD.length<=30:=by rw[h0.bD];have:=Mo (a:=a) (i:Int);have:=ha.L;omega
theorem j0.QX(h0:j0 a N k i h)(ha:fy a N):h.Z.length<=30:=by rw[h0.Z];have:=th (a:=a) (i:Int);have:=ha.L;omega
theorem j0.told(h0:j0 a N k i h)(ha:fy a N)(hi:i<N):Dp h.told k:=
 ⟨by show 0<=h.node/\h.node<=5;rw[h0.nd];have:=ha.n6;omega,by show(h.Z.map λl=>(l.length:Int)).length<=1000;rw[ic];have:=h0.QX ha;omega,by have:=h0.IL ha;show h.bD.length<=1000;omega,by have:=h0.QX ha;show h.Z.length<=1000;omega,λr q=>by have:=(h0.ir r q).1;omega,h0.or⟩
theorem j0.bare(h0:j0 a N k i h)(ha:fy a N)(hi:i<N):Dp (V.bare h) k:=
 ⟨by show 0<=h.node/\h.node<=5;rw[h0.nd];have:=ha.n6;omega,by show(h.Z.map λl=>(l.length:Int)).length<=1000;rw[ic];have:=h0.QX ha;omega,by show(List.replicate h.bD.length ([]:List (Int×Int))).length<=1000;rw[jM];have:=h0.IL ha;omega,by show 0<=1000;omega,λr q=>by rw[(nR.1 q).2];simp,λr q=>by cases q⟩
theorem j0.new(ha:fy a N)(hi:i<N):j0 a N 0 i (V.Ku a (i:Int)):=by
 have e:(if (i:Int)<0\/a.n<=(i:Int) then(0:Int) else(i:Int))=(i:Int):=aO (by rw[ha.n];omega);unfold V.Ku;dsimp only;rw[e];have hT:i<a.T.length:=by rw[ha.tn];exact hi
 have hs:=(ha.nd i a.T[i] (eu hT)).1;refine⟨rfl,?_,by show(0:Int)<=0/\(0:Int)<=_;omega,by simp,by simp,λr q=>?_,λr q=>?_⟩
 ·show 0<=(a.T.getD (i:Int).toNat ⟨0,[]⟩).start/\_;rw[dG,dB,eu hT];exact hs
 ·rw[(nR.1 q).2];exact⟨by simp,List.Pairwise.nil⟩
 ·rw[(nR.1 q).2];simp
theorem fL.new(ha:fy a N)(hi:i<N):fL a N 0 i (V.rM a (i:Int)):=
 ⟨j0.new ha hi,Dp.zero 0,by show 0<=0;omega,λq=>absurd q (by show ¬(1:Int)<=0;decide),by show 0<=30;omega,Dp.zero 0,by show 0<=6;omega,λp q=>(by cases q),by show 0<=0;omega,by show(0:Int)<=0/\(0:Int)<=30;omega,by show(0:Int)<=0/\(0:Int)<=_;omega,by show 0<=6;omega,λq=>absurd q (by show ¬(0:Int)<0;omega)⟩
theorem yM{n:Int}:∀(l:List (Int×Int))(Z:List (List Int))(aQ:List (Int×Int×Int)) {QY:List (List Int)} {IM:List (Int×Int×Int)},V.sendAll a n l Z aQ=some (QY,IM)->(∀r∈Z,r.length<=500)->(∀s∈l,0<=Gr.find a.az n s.1)->
 QY.length=Z.length/\(∀r∈QY,r.length<=500)/\IM.length=aQ.length+l.length/\∀s∈IM,s∈aQ\/Lk a s.1
 |[],Z,aQ,QY,IM,h,ho,_=>by
  unfold V.sendAll at h;injection h with h;injection h with F R;subst F;subst R
  exact⟨rfl,ho,rfl,λs q=> .inl q⟩
 |s::l,Z,aQ,QY,IM,h,ho,hl=>by
  unfold V.sendAll at h;dsimp only at h;split at h
  ·cases h
  ·next hr=>
   obtain⟨i1,i2,i3,i4⟩:=yM l _ _ h (λr q=>by
    rcases kJ q with q|rfl
    ·exact ho r q
    ·rw[dh,j'];omega) λs q=>hl s (by simp[q])
   refine⟨by rw[i1,fG],i2,by rw[i3];simp only[dh,fF,nj];omega,λy q=>?_⟩;rcases i4 y q with q|q
   ·rcases nf.1 q with q|q
    ·exact .inl q
    ·rw[vY] at q;subst q;exact .inr (Lk.find (hl s (by simp)))
   ·exact .inr q
theorem EE(ha:fy a N)(h0:j0 a N k i h){c:Int}{aQ:List (Int×Int×Int)}(e:V.jW a h c=(0,h',aQ)):j0 a N (k+1) i h'/\aQ.length<=4/\∀s∈aQ,Lk a s.1:=by
 unfold V.jW at e;split at e
 ·split at e
  ·cases e
  ·next p hp=>
   have Xr:p∈(Tb.at_ a.T h.node h.state).dg:=by
    unfold Tb.nx at hp;split at hp
    ·cases hp
    ·exact dV hp
   rw[h0.nd] at Xr;obtain⟨q1,q2,q3⟩:=ha.dg i h.state p Xr;split at e
   ·cases e
   ·next Z s2 hs=>
    injection e with _ e;injection e with e1 e2;subst e1;subst e2
    rw[h0.nd] at hs;obtain⟨i1,i2,i3,i4⟩:=yM _ _ _ hs h0.or q3;refine⟨⟨h0.nd,q1,by show 0<=h.steps+1/\h.steps+1<=((k+1:Nat):Int);have:=h0.sp;omega,h0.bD,by show Z.length=_;rw[i1,h0.Z],λr q=>⟨by have:=(h0.ir r q).1;omega,(h0.ir r q).2⟩,i2⟩,by rw[i3];simpa using q2,λs q=>(i4 s q).elim (λq=>by cases q) id⟩
 ·cases e
theorem EF{m:Int×Int}:∀ {row:List (Int×Int)},zd row->row.any (λx=>decide (x.1=m.1))=false->zd (V.vg m row)/\(V.vg m row).length=row.length+1/\∀y∈V.vg m row,y=m\/y∈row
 |[],_,_=>⟨by simp[V.vg,zd],rfl,λy q=>by simpa[V.vg] using q⟩
 |x::l,h,hn=>by
  unfold zd at h;rw[m8] at h;rw[tG,EV,decide_eq_false_iff_not] at hn;obtain⟨i1,i2,i3⟩:=EF h.2 hn.2;by_cases bY:x.1<m.1
  ·have e:V.vg m (x::l)=x::V.vg m l:=by unfold V.vg;rw[EL (by simpa using bY),List.dropWhile_cons_of_pos (by simpa using bY)];rfl
   rw[e];refine⟨m8.2 ⟨λy q=>?_,i1⟩,by rw[fF,i2,fF],λy q=>?_⟩
   ·rcases i3 y q with rfl |q
    ·exact bY
    ·exact h.1 y q
   ·rcases jQ.1 q with rfl |q
    ·exact .inr (by simp)
    ·rcases i3 y q with q|q
     ·exact .inl q
     ·exact .inr (by simp[q])
  ·have e:V.vg m (x::l)=m::x::l:=by unfold V.vg;rw[EM (by simpa using bY),List.dropWhile_cons_of_neg (by simpa using bY)];rfl
   rw[e];refine⟨m8.2 ⟨λy q=>?_,m8.2 h⟩,rfl,λy q=>by simpa using q⟩;have:=hn.1;rcases jQ.1 q with rfl |q
   ·omega
   ·have:=h.1 y q;omega
theorem N4(ha:fy a N)(h0:j0 a N k i h){link:Int}{m:Int×Int}(e:V.jX a h link m=(0,h')):j0 a N (k+1) i h':=by
 unfold V.jX at e;dsimp only at e;split at e
 ·cases e
 ·split at e
  ·cases e
  ·next hn=>
   injection e with _ e;subst e
   refine⟨h0.nd,?_,by show 0<=h.steps+1/\h.steps+1<=((k+1:Nat):Int);have:=h0.sp;omega,by show(h.bD.set _ _).length=_;rw[fG,h0.bD],h0.Z,λr q=>?_,h0.or⟩
   ·show 0<=Tb.taken a.T h.node h.state _ _/\_;rw[h0.nd];unfold Tb.taken;split
    ·next t ht=>exact ha.dd i h.state t (List.mem_of_find?_eq_some ht)
    ·exact h0.st
   ·rcases kJ q with q|rfl
    ·exact⟨by have:=(h0.ir r q).1;omega,(h0.ir r q).2⟩
    ·generalize (V.place (Gr.ins a.az h.node) link).toNat=j at *;by_cases hj:j<h.bD.length
     ·have hm:h.bD.getD j []∈h.bD:=by rw[dB,eu hj];exact nc hj
      obtain⟨i1,i2,_⟩:=EF (h0.ir _ hm).2 (by simpa only[Bool.not_eq_true] using hn);exact⟨by rw[i2];have:=(h0.ir _ hm).1;omega,i1⟩
     ·have:h.bD.getD j []=[]:=by rw[dB,uJ (by omega)];rfl
      rw[this];exact⟨by simp[V.vg],by simp[V.vg,zd]⟩
theorem S7(a:Ap):V.kind a≠0:=by unfold V.kind;split<;>decide
theorem pH.app{l l':List (Int×Fr)}(h:pH a l)(h':pH a l'):pH a (l++l'):=λo q=>(nf.1 q).elim (h o) (h' o)
theorem pH.one{l:Int}{f:Fr}(hl:Lk a l)(hf:f.kind≠0):pH a [(l,f)]:=λo q=>by rw[vY] at q;subst q;exact⟨hl,hf⟩
theorem iV.send(h:iV a N k i w m){l:Int}{f:Fr}(hl:Lk a l)(hf:f.kind≠0):iV a N k i (V.send w l f) (m+1):=
 ⟨h.x,h.o.app (pH.one hl hf),by show(w.Z++[(l,f)]).length<=_;rw[dh,j'];have:=h.ol;omega,h.p⟩
theorem Lg(h:fL a N k i x):Dp (V.jJ a x) k:=by
 unfold V.jJ;split
 ·exact h.mp
 ·exact h.up
theorem ti(ha:fy a N)(h:iV a N k i w m){w':Wk}(e:V.tell a w=.ok w'):iV a N k i w' (m+1):=by
 unfold V.tell at e;split at e
 ·next ht=>
  split at e
  ·cases e
  ·next all hm=>
   have htu:w.x.told<w.x.t.aC:=by
    unfold V.PX at ht;simp only[cQ,dC] at ht;exact ht.1
   have D:fL a N k i {w.x with told:=w.x.t.aC}:=⟨h.x.h,h.x.mp,h.x.mi,h.x.me,h.x.mo,h.x.up,h.x.gl,h.x.g,h.x.kd,h.x.wt,h.x.hd,h.x.sl,λq=>absurd q (by show ¬w.x.t.aC<w.x.t.aC;omega)⟩;have hal:all.length<=7:=by rw[(ua hm).1];have:=h.x.gl;simp;omega
   dsimp only at e;split at e
   ·injection e with e;subst e
    exact⟨D,h.o,by have:=h.ol;show w.Z.length<=m+1;omega,hal⟩
   ·next hu=>
    injection e with e;subst e
    exact iV.send (w:={w with x:={w.x with told:=w.x.t.aC}}) ⟨D,h.o,h.ol,h.p⟩ (ha.back ⟨by omega,h.x.tu htu⟩) (by show(5:Int)≠0;decide)
 ·injection e with e;subst e
  exact⟨h.x,h.o,by have:=h.ol;omega,h.p⟩
theorem xe(ha:fy a N)(h:iV a N k i w m)(e:Int):iV a N k i (V.gI a e w) (m+30):=by
 refine⟨⟨h.x.h,h.x.mp,h.x.mi,h.x.me,h.x.mo,h.x.up,by show 0<=6;omega,λp q=>(by cases q),h.x.kd,h.x.wt,by show(0:Int)<=0/\(0:Int)<=_;omega,h.x.sl,h.x.tu⟩,h.o.app λo q=>?_,?_,h.p⟩
 ·obtain⟨l,hl,rfl⟩:=pR.1 q;exact⟨Lk.outs hl,S7 a⟩
 ·show(w.Z++(V.outs a w).map _).length<=_;rw[dh,ic];have:=th (a:=a) w.x.h.node;have:=ha.L;have:=h.ol;unfold V.outs;omega
theorem iV.lR(h:fL a N k i x):iV a N k i (V.lR x) 0:=⟨h,λo q=>(by cases q),by show 0<=0;omega,by show 0<=7;omega⟩
theorem Mp(ha:fy a N)(hi:i<N)(h:j0 a N k i h'){u:PW}(hu:Dp u.p k)(e:Int):Dp (V.lP u h' e).p k:=by
 unfold V.lP;split
 ·exact hu
 ·exact h.told ha hi
theorem fL.sW(ha:fy a N)(hi:i<N)(h:fL a N k i x)(e:Int):fL a N k i {x with u:=V.lP x.u x.h e}:=
 ⟨h.h,h.mp,h.mi,h.me,h.mo,Mp ha hi h.h h.up e,h.gl,h.g,h.kd,h.wt,h.hd,h.sl,h.tu⟩
theorem fL.begin(ha:fy a N)(hi:i<N)(h:fL a N k i x)(e:Int):fL a N k i {x with m:=V.mh x.h e}:=
 ⟨h.h,h.h.bare ha hi,by show(List.replicate x.h.bD.length true).length<=(List.replicate x.h.bD.length ([]:List (Int×Int))).length;simp,λ_=>by show(List.replicate x.h.bD.length true).length=_;simp,by show(List.replicate x.h.bD.length true).length<=30;rw[jM];exact h.h.IL ha,h.up,h.gl,h.g,h.kd,h.wt,h.hd,h.sl,h.tu⟩
theorem fL.mark(ha:fy a N)(hi:i<N)(h:fL a N k i x)(e j:Int):fL a N k i {x with m:=V.sR x.m x.h e j}:=by
 unfold V.sR;split
 ·exact h
 ·have F:fL a N k i {x with m:=if x.m.aC=e then x.m else V.mh x.h e}:=by
   split
   ·exact h
   ·exact h.begin ha hi e
  exact⟨F.h,F.mp,by have:=F.mi;show(List.set _ _ _).length<=_;rw[fG];exact this,λq=>by have:=F.me q;show(List.set _ _ _).length=_;rw[fG];exact this,by have:=F.mo;show(List.set _ _ _).length<=_;rw[fG];exact this,F.up,F.gl,F.g,F.kd,F.wt,F.hd,F.sl,F.tu⟩
theorem N6(ha:fy a N)(hi:i<N)(h:iV a N k i w m){l:Int}{f:Fr}{w':Wk}(e:V.uB a l f w=.ok w'):iV a N (k+1) i w' m:=by
 unfold V.uB at e;split at e
 ·next F ht=>
  injection e with e;subst e
  have hh:=N4 ha h.x.h ht;have D:=h.x.mono (show k<=k+1 by omega);refine⟨?_,h.o,h.ol,h.p⟩;dsimp only;split
  ·have hlen:F.bD.length=w.x.h.bD.length:=by rw[hh.bD,h.x.h.bD]
   unfold V.za;split
   ·refine⟨hh,⟨D.mp.nd,D.mp.s,by show(List.set _ _ _).length<=_;rw[fG];exact D.mp.i,D.mp.o,λr q=>?_,D.mp.or⟩,by show _<=(List.set _ _ _).length;rw[fG];exact D.mi,λq=>by show w.x.m.fj.length=F.bD.length;rw[hlen];exact D.me q,D.mo,D.up,D.gl,D.g,D.kd,D.wt,D.hd,D.sl,D.tu⟩;rcases kJ q with q|rfl
    ·exact D.mp.ir r q
    ·rw[dh,j'];generalize (V.place (Gr.ins a.az F.node) l).toNat=j;by_cases hj:j<w.x.m.p.bD.length
     ·have hm:w.x.m.p.bD.getD j []∈w.x.m.p.bD:=by rw[dB,eu hj];exact nc hj
      have:=h.x.mp.ir _ hm;omega
     ·have:w.x.m.p.bD.getD j []=[]:=by rw[dB,uJ (by omega)];rfl
      rw[this];simp;omega
   ·exact⟨hh,D.mp,D.mi,λq=>by show w.x.m.fj.length=F.bD.length;rw[hlen];exact D.me q,D.mo,D.up,D.gl,D.g,D.kd,D.wt,D.hd,D.sl,D.tu⟩
  ·exact⟨hh,D.mp,D.mi,λq=>by show w.x.m.fj.length=F.bD.length;rw[hh.bD,<-h.x.h.bD];exact D.me q,D.mo,(Mp ha hi h.x.h h.x.up f.aC).mono (by omega),D.gl,D.g,D.kd,D.wt,D.hd,D.sl,D.tu⟩
 ·cases e
theorem fL.tree(h:fL a N k i x){t:Tr}(F:t.kids.length<=k)(R:0<=t.wait/\t.wait<=30)(h3:x.told<t.aC->t.up<(a.az.length:Int)):fL a N k i {x with t:=t}:=
 ⟨h.h,h.mp,h.mi,h.me,h.mo,h.up,h.gl,h.g,F,R,h.hd,h.sl,h3⟩
theorem IN(ha:fy a N)(hi:i<N)(h:iV a N k i w m){l:Int}(hl:Lk a l){f:Fr}{w':Wk}(e:V.j4 a l f w=.ok w'):iV a N (k+1) i w' (m+32):=by
 unfold V.j4 at e;split at e
 ·cases e
 ·split at e
  ·cases e
  ·dsimp only at e;obtain⟨x1,iP⟩:∃x1,(if a.bF=true then {w.x with m:=V.sR w.x.m w.x.h f.aC (V.Ug a w l)} else {w.x with u:=V.lP w.x.u w.x.h f.aC}:Nd)=x1:=⟨_,rfl⟩;rw[iP] at e;have F:fL a N (k+1) i x1/\x1.told=w.x.told:=by
    rw[<-iP];split
    ·exact⟨(h.x.mark ha hi _ _).mono (by omega),rfl⟩
    ·exact⟨(h.x.sW ha hi _).mono (by omega),rfl⟩
   have Gq:((V.outs a w).length:Int)<=30:=by unfold V.outs;have:=th (a:=a) w.x.h.node;have:=ha.L;omega
   have R:iV a N (k+1) i {w with x:={x1 with t:=V.qm w.x.t f.aC l (V.outs a w).length}} m:=by
    refine⟨F.1.tree ?_ ?_ ?_,h.o,h.ol,h.p⟩;all_goals
     unfold V.qm
    ·split
     ·have:=h.x.kd;omega
     ·show 0<=k+1;omega
    ·split
     ·exact h.x.wt
     ·show 0<=max _ _/\max _ _<=30;omega
    ·split
     ·rw[F.2];exact h.x.tu
     ·exact λ_=>hl.2
   split at e
   ·have:=ti ha (R.send (f:=V.BJ 4 f.aC) (ha.back hl) (by show(4:Int)≠0;decide)) e;exact⟨this.x,this.o,by have:=this.ol;omega,this.p⟩
   ·have:=ti ha (xe ha (R.send (f:=V.BJ 3 f.aC) (ha.back hl) (by show(3:Int)≠0;decide)) f.aC) e;exact⟨this.x,this.o,by have:=this.ol;omega,this.p⟩
theorem IP(ha:fy a N)(h:iV a N k i w m){l:Int}{f:Fr}{w':Wk}(e:V.lQ a l f w=.ok w'):iV a N (k+1) i w' (m+1):=by
 unfold V.lQ at e;split at e
 ·cases e
 ·next t ht=>
  refine ti ha (w:={w with x:={w.x with t:=t}}) ⟨fL.tree (h.x.mono (by omega)) ?_ ?_ ?_,h.o,h.ol,h.p⟩ e;all_goals
   unfold V.kD at ht;split at ht
   ·cases ht
   ·next hw=>
    injection ht with ht;subst ht
    have:=h.x.wt;have:=h.x.kd;first
     |exact h.x.tu
     |((try dsimp only);omega)
     |((try dsimp only);split<;>(first |omega |(rw[dh,j'];omega)))
theorem F5(ha:fy a N)(h:iV a N k i w m){l:Int}{f:Fr}(hf:Fr.right f=true)(Q:f.kind=5){w':Wk}(e:V.kE a l f w=.ok w'):iV a N (k+1) i w' (m+1):=by
 unfold V.kE at e;split at e
 ·split at e
  ·cases e
  ·next all hm=>
   have hr:∀p∈f.pieces,Dp p (k+1):=by
    have:=FU hf;unfold Fr.Jz at this;rw[aO (by omega),aS Q] at this;unfold Fr.report at this;simp only[cQ,eT] at this;exact λp hp=>Dp.right (this.2.2 p hp) _
   have D:=h.x.mono (show k<=k+1 by omega);have hh:=h.x.hd;refine ti ha (w:={w with x:={w.x with jz:=all,heard:=w.x.heard+1}}) ⟨⟨D.h,D.mp,D.mi,D.me,D.mo,D.up,N3 hm (λp q=>(D.g p q).nd) (λp q=>(hr p q).nd),λp q=>((ua hm).2 p q).elim (D.g p) (hr p),D.kd,D.wt,by show 0<=w.x.heard+1/\w.x.heard+1<=((k+1:Nat):Int);omega,D.sl,D.tu⟩,h.o,h.ol,h.p⟩ e
 ·cases e
theorem Cu(ha:fy a N)(h0:j0 a N k i h)(n c:Int)(p:List Int):pH a (V.dp a h n c p)/\(V.dp a h n c p).length<=6:=by
 unfold V.dp;rw[h0.nd];refine⟨λo q=>?_,by rw[ic];exact(ha.waits i h.state).2⟩;obtain⟨w,hw,rfl⟩:=pR.1 q;exact⟨Lk.find (ha.sW ((ha.waits i h.state).1 w hw)),by show(6:Int)≠0;decide⟩
theorem IQ(ha:fy a N)(h:iV a N k i w m){l:Int}{f:Fr}(hf:Fr.right f=true)(Q:f.kind=6){w':Wk}(e:V.mG a l f w=.ok w'):iV a N (k+1) i w' 6:=by
 unfold V.mG at e;injection e with e;subst e
 obtain⟨⟨j,hj,hj5⟩,_⟩:=yI hf Q;have D:=h.x.mono (show k<=k+1 by omega);have hs:(V.nB a w.x.h w.x.seen l f).1.length<=6/\pH a (V.nB a w.x.h w.x.seen l f).2.1/\(V.nB a w.x.h w.x.seen l f).2.1.length<=6:=by
  have h0:pH a []:=λo q=>by cases q
  unfold V.nB;split
  ·exact⟨h.x.sl,h0,by show 0<=6;omega⟩
  ·split
   ·exact⟨h.x.sl,h0,by show 0<=6;omega⟩
   ·split
    ·exact⟨h.x.sl,h0,by show 0<=6;omega⟩
    ·refine⟨?_,Cu ha h.x.h _ _ _⟩;show(V.AB w.x.seen f.init.toNat f.num).length<=6;unfold V.AB;rw[fG,dh,jM,hj];have:=h.x.sl;omega
 exact⟨⟨D.h,D.mp,D.mi,D.me,D.mo,D.up,D.gl,D.g,D.kd,D.wt,D.hd,hs.1,D.tu⟩,hs.2.1,hs.2.2,h.p⟩
theorem ya(ha:fy a N)(hi:i<N)(h:fL a N k i x){l:Int}(hl:Lk a l){f:Fr}(hf:Fr.right f=true){w':Wk}(e:V.pE a (V.lR x) l f=.ok w'):iV a N (k+1) i w' 40:=by
 have h0:=iV.lR h;have up:∀ {m:Nat},m<=40->iV a N (k+1) i w' m->iV a N (k+1) i w' 40:=λhm q=>⟨q.x,q.o,by have:=q.ol;omega,q.p⟩;have ki:=FW hf;unfold V.pE at e;split at e
 ·split at e
  ·exact up (by omega) (N6 ha hi h0 e)
  ·split at e
   ·exact up (by omega) (IN ha hi h0 hl e)
   ·split at e
    ·exact up (by omega) (IP ha h0 e)
    ·split at e
     ·next h5=>exact up (by omega) (F5 ha h0 hf h5 e)
     ·exact up (by omega) (IQ ha h0 hf (by omega) e)
 ·cases e
theorem vD(ha:fy a N)(hi:i<N)(h:fL a N k i x){c:Int}{w':Wk}(e:V.kY a (V.lR x) c=.ok w'):iV a N (k+1) i w' 40:=by
 unfold V.kY at e;split at e
 ·have D:fL a N (k+1) i (V.Ch a (V.lR x) c).x:=by
   unfold V.Ch;dsimp only;split
   ·exact(h.begin ha hi c).mono (by omega)
   ·exact(h.sW ha hi c).mono (by omega)
  have Gq:((Gr.outs a.az x.h.node).length:Int)<=30:=by have:=th (a:=a) x.h.node;have:=ha.L;omega
  have F:iV a N (k+1) i {V.Ch a (V.lR x) c with x:={(V.Ch a (V.lR x) c).x with t:=⟨c,-1,((Gr.outs a.az (V.lR x).x.h.node).length:Int),[]⟩}} 0:=by
   refine⟨D.tree (by show 0<=k+1;omega) ⟨by show(0:Int)<=(_:Nat);omega,Gq⟩ λ_=>by show(-1:Int)<_;omega,?_,?_,?_⟩
   ·show pH a (V.Ch a (V.lR x) c).Z;rw[(Ci _ _ _).1];exact λo q=>by cases q
   ·show(V.Ch a (V.lR x) c).Z.length<=0;rw[(Ci _ _ _).1];exact bE
   ·show(V.Ch a (V.lR x) c).nC.length<=7;unfold V.Ch;exact fH _
  have:=ti ha (xe ha F c) e;exact⟨this.x,this.o,by have:=this.ol;omega,this.p⟩
 ·cases e
theorem xf{e:Int}(h:V.tell a w=.error e):e=4:=by
 unfold V.tell at h;split at h
 ·split at h
  ·injection h with h;exact h.symm
  ·dsimp only at h;split at h<;>cases h
 ·cases h
theorem N7{l:Int}{f:Fr}{e:Int}(h:V.pE a w l f=.error e):e≠0:=by
 unfold V.pE at h;split at h
 ·split at h
  ·unfold V.uB at h;split at h
   ·cases h
   ·next e' h' fz he=>
    injection h with h;subst h
    exact λh0=>fz h0
  ·split at h
   ·unfold V.j4 at h;split at h
    ·injection h with h;subst h;decide
    ·split at h
     ·injection h with h;subst h;decide
     ·dsimp only at h;split at h<;>(rw[xf h];decide)
   ·split at h
    ·unfold V.lQ at h;split at h
     ·injection h with h;subst h;decide
     ·rw[xf h];decide
    ·split at h
     ·unfold V.kE at h;split at h
      ·split at h
       ·injection h with h;subst h;decide
       ·rw[xf h];decide
      ·injection h with h;subst h;decide
     ·unfold V.mG at h;cases h
 ·injection h with h;subst h;decide
theorem Lh{c e:Int}(h:V.kY a w c=.error e):e≠0:=by
 unfold V.kY at h;split at h
 ·rw[xf h];decide
 ·injection h with h;subst h;decide
end
structure qw(a:Ap)(c:Int)(x:La):Prop where
 r:La.right x=true
 c:x.cap=c
 f:x.bF=a.bF
structure dZ(a:Ap)(N:Nat)(c:Int)(k:Nat)(t:Nt):Prop where
 ll:t.aX.length=a.az.length
 nl:t.nodes.length=N
 la:∀x∈t.aX,qw a c x
 nd:∀(i:Nat)(x:Nd),t.nodes[i]?=some x->fL a N k i x
 ep:0<=t.aC
 pr:0<=t.dp
 c1:1<=c/\c<=20
theorem tj{x:La}(h:La.right x=true):(∀f∈x.l,Fr.right f=true)/\(1<=x.cap/\x.cap<=20)/\(La.kV 0 x.l:Int)<=x.cap/\(x.l.length:Int)-(La.kV 0 x.l:Int)<=5:=by
 unfold La.right La.roomy at h;simp only[cQ,dC,eT] at h;exact⟨h.1,⟨h.2.1,h.2.2.1⟩,h.2.2.2.1,h.2.2.2.2⟩
theorem IS{x:La}(F:∀f∈x.l,Fr.right f=true)(R:1<=x.cap/\x.cap<=20)(h3:(La.kV 0 x.l:Int)<=x.cap)(h4:(x.l.length:Int)-(La.kV 0 x.l:Int)<=5):La.right x=true:=by
 unfold La.right La.roomy;simp only[cQ,dC,eT];exact⟨F,R.1,R.2,h3,h4⟩
theorem EG{x:La}(h:La.right x=true):lK x.l/\x.l.length<=25:=by
 obtain⟨F,R,h3,h4⟩:=tj h;exact⟨λf q=>FW (F f q),by omega⟩
theorem S8{x:La}(h:La.right x=true){i:Nat}(hi:i<x.l.length):La.right (La.less x i)=true:=by
 obtain⟨F,R,h3,h4⟩:=tj h;have e:x.l=x.l.take i++x.l[i]::x.l.drop (i+1):=by rw[<-AQ hi,vU]
 have el:(La.less x i).l.length+1=x.l.length:=by show(x.l.take i++x.l.drop (i+1)).length+1=_;rw[dh,dL,iQ];omega
 have ec:La.kV 0 x.l=La.kV 0 (La.less x i).l+if x.l[i].kind=0 then 1 else 0:=by
  have:La.kV 0 x.l=La.kV 0 (x.l.take i++x.l[i]::x.l.drop (i+1)):=fS _ e;rw[this];show _=La.kV 0 (x.l.take i++x.l.drop (i+1))+_;unfold La.kV;rw[qG,qG,dh,dh,List.filter_cons];by_cases Q:x.l[i].kind=0
  ·simp[Q];omega
  ·simp[Q]
 refine IS (λf q=>?_) R ?_ ?_
 ·rcases nf.1 q with q|q
  ·exact F f (List.mem_of_mem_take q)
  ·exact F f (List.mem_of_mem_drop q)
 ·show(La.kV 0 (La.less x i).l:Int)<=x.cap;omega
 ·split at ec<;>omega
section
variable{a:Ap}{N k:Nat}{c:Int}{t:Nt}{ls:List La}
theorem nK{α:Type}{l:List α}{i:Nat}{d:α}(h:i<l.length):l.getD i d∈l:=by rw[dB,eu h];exact nc h
theorem yb{o:Int×Fr}(h:∀x∈ls,qw a c x)(ho:0<=o.1/\o.1<(ls.length:Int)):(∀x∈V.lj ls o,qw a c x)/\(V.lj ls o).length=ls.length:=by
 unfold V.lj;split
 ·next he=>
  refine⟨λx q=>?_,fG ..⟩;rcases kJ q with q|rfl
  ·exact h x q
  ·have F:=h _ (nK (d:=La.zero) (show o.1.toNat<ls.length by omega));unfold La.kx at he;split at he
   ·next R=>
    split at he
    ·next h3=>
     unfold La.push;rw[R,h3];exact⟨h3,F.c,F.f⟩
    ·cases he
   ·cases he
 ·exact⟨h,rfl⟩
theorem mY:∀ {Z:List (Int×Fr)} {ls:List La},(∀x∈ls,qw a c x)->(∀o∈Z,0<=o.1/\o.1<(ls.length:Int))->(∀x∈V.du ls Z,qw a c x)/\(V.du ls Z).length=ls.length
 |[],_,h,_=>⟨h,rfl⟩
 |o::Z,ls,h,ho=>by
  obtain⟨F,R⟩:=yb h (ho o (by simp));obtain⟨h3,h4⟩:=mY (Z:=Z) F λo q=>by rw[R];exact ho o (by simp[q])
  exact⟨h3,h4.trans R⟩
theorem yN{aQ:Int}:∀ {l:List (Int×Int)} {last:Int},Pn.gM aQ last l=true->aQ<=500/\(last<=aQ->(l.length:Int)<=aQ-last)
 |[],last,h=>by
  unfold Pn.gM at h;simp only[cQ,dC] at h;exact⟨h.2,λq=>by simp;omega⟩
 |m::l,last,h=>by
  unfold Pn.gM at h;split at h
  ·cases h
  ·obtain⟨F,R⟩:=yN h;refine⟨F,λq=>?_⟩;have:=R (by omega);rw[fF];omega
theorem WN{l:List (List (Int×Int))}(h:∀x∈l,x.length<=500):(l.map λx=>(x.length:Int)).sum<=500 * (l.length:Int):=by
 induction l with
 |nil=>simp
 |cons x l ih=>
  have:=ih λy q=>h y (by simp[q]);have:=h x (by simp);rw[jR,List.sum_cons,fF];omega
theorem QZ(ha:fy a N)(ps:List Pc.bG)(iU:Bool):(V.build a ps iU).aL.length<=6/\((V.build a ps iU).aL≠[]->(V.build a ps iU).az.length=a.az.length)/\(V.build a ps iU).az.length<=30/\∀x∈(V.build a ps iU).az,x.length<=500:=by
 have hz:V.oG.aL.length<=6/\(V.oG.aL≠[]->V.oG.az.length=a.az.length)/\V.oG.az.length<=30/\∀x∈V.oG.az,x.length<=500:=⟨by decide,λq=>absurd rfl q,by decide,λ_ q=>by cases q⟩;unfold V.build;split
 ·split
  ·exact hz
  ·next ss ms hl=>
   split
   ·next hr=>
    unfold V.rj at hr;simp only[cQ,dC,eT,ke] at hr;obtain⟨⟨r1,r2,r3⟩,r4,r5⟩:=hr;have:=ha.n;have:=ha.n6;have:=ha.L;refine⟨by dsimp only at r1⊢;omega,λ_=>r2,by dsimp only at r2⊢;omega,λx q=>?_⟩;obtain⟨j,hj,rfl⟩:=m5 q;have h5:=r5 j hj;rw[dB,dB,eu hj,pM] at h5;obtain⟨h6,h7⟩:=yN h5;have h8:0<=(ss[j]?.getD 0):=by
     by_cases q0:0<=(ss[j]?.getD 0)
     ·exact q0
     ·exfalso;dsimp only at h5;cases hm:ms[j] with
      |nil=>rw[hm] at h5;unfold Pn.gM at h5;simp only[cQ,dC] at h5;omega
      |cons m l=>rw[hm] at h5;unfold Pn.gM at h5;rw[aS (by omega)] at h5;cases h5
    have:=h7 h8;dsimp only at this h6⊢;omega
   ·exact hz
 ·exact hz
theorem UL.of(ha:fy a N){ps:List Pc.bG}(h:ps.length<=7):UL a ps N:=by
 obtain⟨b1,b2,b3,b4⟩:=QZ ha ps (!a.bF);have:=ha.L;refine⟨ha.n,ha.n6,by omega,ha.T,by rw[ha.tn,ha.n],by omega,⟨by omega,b1,b2,λn s=>?_⟩,by omega,?_⟩
 ·by_cases hn:0<=n
  ·obtain⟨i,rfl⟩:=EN hn;obtain⟨w1,w2⟩:=ha.waits i s;refine⟨by omega,λx q=>?_⟩;have:=(ha.lk _ (F4 (w1 x q))).1;have:=ha.n6;dsimp only at *;omega
  ·have:Tb.at_ a.T n s=Tb.none:=by
    unfold Tb.at_ Tb.has;rw[bZ hn,pt,aO (by decide)]
   rw[this];exact⟨by decide,λx q=>by cases q⟩
 ·have:=WN b4;omega
theorem dZ.lK(h:dZ a N c k t):nP t.aX:=λx q=>EG (h.la x q).r
theorem dZ.vz(h:dZ a N c k t):∀x∈t.aX,x.l.length<=25:=λx q=>(EG (h.la x q).r).2
theorem dZ.Cs(h:dZ a N c k t)(ha:fy a N):Cs t.aX:=⟨h.lK,λx q=>(tj (h.la x q).r).2.1,by rw[h.ll];have:=ha.L;omega⟩
theorem EH(a:Ap)(h:Hu.Host)(j:Int):(∃h' aQ,V.jW a h j=(0,h',aQ))\/∃e,e≠0/\e≠6/\V.jW a h j=(e,V.mS,[]):=by
 unfold V.jW;split
 ·split
  ·exact .inr ⟨3,by decide,by decide,rfl⟩
  ·split
   ·exact .inr ⟨2,by decide,by decide,rfl⟩
   ·exact .inl ⟨_,_,rfl⟩
 ·exact .inr ⟨8,by decide,by decide,rfl⟩
theorem vG(ha:fy a N){i:Nat}{x:Nd}(h:fL a N k i x)(j:Int):(∃x' Z,V.jm a x j=(0,x',Z)/\fL a N (k+1) i x'/\Z.length<=4/\∀o∈Z,Lk a o.1/\o.2.kind=0)\/∃e,e≠0/\V.jm a x j=(e,V.rM a (-1),[]):=by
 unfold V.jm;rcases EH a x.h j with⟨h',aQ,e⟩|⟨e',F,_,e⟩
 ·rw[e];obtain⟨i1,i2,i3⟩:=EE ha h.h e;have D:=h.mono (show k<=k+1 by omega);refine .inl ⟨_,_,rfl,⟨i1,D.mp,D.mi,λq=>by show x.m.fj.length=h'.bD.length;rw[i1.bD,<-h.h.bD];exact D.me q,D.mo,D.up,D.gl,D.g,D.kd,D.wt,D.hd,D.sl,D.tu⟩,by rw[ic];exact i2,λo q=>?_⟩;obtain⟨s,hs,rfl⟩:=pR.1 q;exact⟨i3 s hs,rfl⟩
 ·rw[e];refine .inr ⟨e',F,?_⟩;split
  ·next q=>injection q with q;exact absurd q F
  ·next q=>injection q with q;rw[q]
theorem dZ.pick(h:dZ a N c k t)(ha:fy a N)(Q:k<=100)(n j:Int):∀x,t.nodes[n.toNat]?=some x->PkP a t x j:=λx D=>by
 have hn:=h.nd _ x D;have hL:=ha.L;have hp:(V.jW a x.h j).2.2.length<=1000:=by
  rcases EH a x.h j with⟨h',aQ,e⟩|⟨e',_,_,e⟩
  ·rw[e];have:=(EE ha hn.h e).2.1;show aQ.length<=1000;omega
  ·rw[e];show 0<=1000;omega
 refine⟨by omega,by rw[hn.h.nd];exact hn.h.Z,hn.h.sized ha (by omega),hn.h.or,by have:=hn.h.sp;omega,λp q=>?_,hp,?_⟩
 ·rw[hn.h.nd] at q⊢;obtain⟨_,q2,q3⟩:=ha.dg _ _ p q;exact⟨by omega,q3⟩
 ·rcases vG ha hn j with⟨x',Z,e,_,i2,i3⟩|⟨e',_,e⟩
  ·rw[e];exact⟨λo q=>by rw[h.ll];exact(i3 o q).1,by show Z.length<=1000;omega⟩
  ·rw[e];exact⟨λo q=>(by cases q),by show 0<=1000;omega⟩
theorem dZ.start(h:dZ a N c k t)(ha:fy a N)(Q:k<=100)(n:Int):∀x,t.nodes[n.toNat]?=some x->StP a t x N:=λx D=>by
 have hn:=h.nd _ x D;have hL:=ha.L;have hi:n.toNat<N:=by rw[<-h.nl];exact(eD.1 D).1
 refine⟨by omega,hn.h.sized ha (by omega),by have:=hn.h.IL ha;omega,?_,λe=>Lh e rfl,λy hy=>?_⟩
 ·have:fL a N k n.toNat (V.Ch a (V.lR x) (t.aC+1)).x:=by
   unfold V.Ch;dsimp only;split
   ·exact hn.begin ha hi _
   ·exact hn.sW ha hi _
  exact(Lg this).sized (by omega)
 ·have hw:=vD ha hi hn hy;exact⟨λo q=>by rw[h.ll];exact(hw.o o q).1,by have:=hw.ol;omega,λ_=>UL.of ha hw.p⟩
theorem vH{la:La}{i:Int}(h:La.right la=true)(he:La.mN la i=0):La.can la i=true/\0<=i/\i.toNat<la.l.length/\Fr.right (La.nz la i)=true/\La.right (La.take la i)=true/\(La.take la i).cap=la.cap/\(La.take la i).bF=la.bF:=by
 have hc:La.can la i=true:=by
  unfold La.mN at he;by_cases q:La.can la i=true
  ·exact q
  ·rw[aO q] at he;cases he
 have oW:=hc;unfold La.can at oW;simp only[cQ,dC] at oW;have hi:i.toNat<la.l.length:=by omega
 refine⟨hc,oW.1,hi,?_,?_⟩
 ·unfold La.nz;rw[aS hc];exact(tj h).1 _ (nK hi)
 ·unfold La.take;rw[aS hc];exact⟨S8 h hi,rfl,rfl⟩
theorem dZ.link(h:dZ a N c k t)(ha:fy a N){ln:Nat}(hl:ln<a.az.length):∃(e0:Int)(kn:Nat)(x:Nd),a.az[ln]?=some (e0,(kn:Int))/\(Gr.at_ a.az ln).2=(kn:Int)/\kn<N/\t.nodes[kn]?=some x/\fL a N k kn x:=by
 have D:=(ha.lk _ (nc hl)).2.1;obtain⟨kn,Jr⟩:=EN D.1;have T0:kn<t.nodes.length:=by rw[h.nl];omega
 refine⟨a.az[ln].1,kn,t.nodes[kn],?_,?_,by omega,eu T0,h.nd _ _ (eu T0)⟩
 ·rw[eu hl,<-Jr]
 ·unfold Gr.at_;rw[dB,eu hl];exact Jr
theorem dZ.Su(h:dZ a N c k t)(ha:fy a N)(Q:k<=100){ln kn:Nat}{x:Nd}{f:Fr}(hl:ln<a.az.length)(hi:kn<N)(hn:fL a N k kn x)(hf:Fr.right f=true):DlP a t ln x f N:=by
 have hL:=ha.L;have yz:Lk a (ln:Int):=⟨by omega,by omega⟩;refine⟨⟨hl,by omega,by show x.h.bD.length=(Gr.ins a.az x.h.node).length;rw[hn.h.nd];exact hn.h.bD,by show x.h.Z.length=(Gr.outs a.az x.h.node).length;rw[hn.h.nd];exact hn.h.Z,hn.h.sized ha (by omega),λr q=>⟨by have:=(hn.h.ir r q).1;omega,(hn.h.ir r q).2⟩,by have:=hn.h.sp;show 0<=x.h.steps/\x.h.steps<=1000000;omega,hn.mp.sized (by omega),by have:=hn.mo;show x.m.fj.length<=1000;omega,hn.mi,by have:=hn.h.IL ha;show x.h.bD.length<=1000;omega,by show 0+a.az.length<=900;omega,λq e=>hn.me (by show 1<=x.m.aC;rw[show x.m.aC=f.aC from e];exact q),by have:=hn.gl;show x.jz.length<=12;omega,λp q=>(hn.g p q).sized (by omega),(Lg hn).sized (by omega),?_,by have:=hn.kd;show x.t.kids.length<=1000;omega,by have:=hn.wt;show -1000000<=x.t.wait/\x.t.wait<=1000000;omega,by have:=hn.hd;show 0<=x.heard/\x.heard<=1000000;omega,by show(Tb.at_ a.T x.h.node x.h.state).waits.length<=1000;rw[hn.h.nd];have:=(ha.waits kn x.h.state).2;omega,by have:=hn.sl;show x.seen.length<=1000;omega⟩,λe=>N7 e rfl,λy hy=>?_⟩
 ·have:fL a N k kn (V.vM a (V.lR x) ln f.aC).x:=by
   unfold V.vM;dsimp only;split
   ·exact hn.mark ha hi _ _
   ·exact hn.sW ha hi _
  exact(Lg this).sized (by omega)
 ·have hw:=ya ha hi hn yz hf hy;exact⟨λo q=>by rw[h.ll];exact(hw.o o q).1,by have:=hw.ol;omega,λ_=>UL.of ha hw.p⟩
theorem dZ.S9(h:dZ a N c k t)(ha:fy a N)(Q:k<=100)(n j:Int):∀(ln:Nat)(la:La),n=(ln:Int)->t.aX[ln]?=some la->La.mN la j=0->∃(e0:Int)(kn:Nat)(x:Nd),a.az[ln]?=some (e0,(kn:Int))/\t.nodes[kn]?=some x/\DlP a t ln x (La.nz la j) N:=λln la _ vr he=>by
 have hl:ln<a.az.length:=by rw[<-h.ll];exact(eD.1 vr).1
 obtain⟨e0,kn,x,F,_,h3,h4,h5⟩:=h.link ha hl;exact⟨e0,kn,x,F,h4,h.Su ha Q hl h3 h5 (vH (h.la _ (dV vr)).r he).2.2.2.1⟩
theorem yc(ha:fy a N){i:Nat}{x:Nd}(h:fL a N k i x)(n:Int):pH a (V.fD a x.h n).2/\(V.fD a x.h n).2.length<=6:=by
 have h0:pH a []:=λo q=>by cases q
 unfold V.fD;split
 ·exact⟨h0,by show 0<=6;omega⟩
 ·split
  ·exact⟨h0,by show 0<=6;omega⟩
  ·split
   ·exact⟨h0,by show 0<=6;omega⟩
   ·exact Cu ha h.h _ _ _
theorem dZ.yh(h:dZ a N c k t)(ha:fy a N)(n:Int):∀x,t.nodes[n.toNat]?=some x->PbP a t x:=λx D=>by
 have hn:=h.nd _ x D;have hL:=ha.L;obtain⟨q1,q2⟩:=yc ha hn (t.dp+1);exact⟨by omega,by rw[hn.h.nd];exact hn.h.bD,by rw[hn.h.nd];have:=(ha.waits n.toNat x.h.state).2;omega,λo q=>by rw[h.ll];exact(q1 o q).1,by omega⟩
theorem dZ.mono{k':Nat}(h:dZ a N c k t)(Q:k<=k'):dZ a N c k' t:=⟨h.ll,h.nl,h.la,λi x q=>(h.nd i x q).mono Q,h.ep,h.pr,h.c1⟩
theorem dZ.new(ha:fy a N)(hc:1<=c/\c<=20):dZ a N c 0 (V.rO a c):=by
 refine⟨by simp[V.rO],by simp[V.rO,ha.n],λx q=>?_,λi x q=>?_,by show(0:Int)<=0;omega,by show(0:Int)<=0;omega,hc⟩
 ·rw[(nR.1 q).2];exact⟨IS (λf q=>by cases q) hc (by show((0:Nat):Int)<=c;omega) (by show((0:Nat):Int)-((0:Nat):Int)<=5;omega),rfl,rfl⟩
 ·have q':((List.range a.n.toNat).map λk:Nat=>V.rM a (k:Int))[i]?=some x:=q;rw[ha.n,dG] at q';obtain⟨hi,e⟩:=eD.1 q';rw[ic,List.length_range] at hi;rw[List.getElem_map,List.getElem_range] at e;rw[<-e];exact fL.new ha hi
theorem dZ.set(h:dZ a N c k t){i:Nat}{x:Nd}{ls:List La}{ep ro pr:Int}(D:fL a N (k+1) i x)(hl:∀y∈ls,qw a c y)(DH:ls.length=a.az.length)(he:0<=ep)(hp:0<=pr):dZ a N c (k+1) ⟨ls,t.nodes.set i x,ep,ro,pr⟩:=by
 refine⟨DH,by show(t.nodes.set i x).length=N;rw[fG,h.nl],hl,λj y q=>?_,he,hp,h.c1⟩;have q':(t.nodes.set i x)[j]?=some y:=q;by_cases PD:i=j
 ·subst PD;rw[List.getElem?_set_self'] at q';cases hz:t.nodes[i]? with
  |none=>rw[hz] at q';cases q'
  |some z=>rw[hz] at q';injection q' with q';subst q';exact D
 ·rw[uK PD] at q';exact(h.nd j y q').mono (by omega)
theorem yd{n:Int}(h:V.has t n=true):∃x,t.nodes[n.toNat]?=some x/\t.nodes.getD n.toNat V.oH=x:=by
 unfold V.has at h;simp only[cQ,dC] at h;have hi:n.toNat<t.nodes.length:=by omega
 exact⟨t.nodes[n.toNat],eu hi,by rw[dB,eu hi];rfl⟩
theorem dZ.Q0(h:dZ a N c k t)(ha:fy a N)(n j:Int):dZ a N c (k+1) (V.gU a t n j).2:=by
 have hm:=h.mono (show k<=k+1 by omega);cases hh:V.has t n
 ·unfold V.gU;rw[aS hh];exact hm
 ·obtain⟨x,D,hg⟩:=yd hh;rcases vG ha (h.nd _ x D) j with⟨x',Z,e,i1,i2,i3⟩|⟨e',e1,e⟩
  ·rw[pG hh hg e];split
   ·obtain⟨p1,p2⟩:=mY (Z:=Z) h.la λo q=>by rw[h.ll];exact(i3 o q).1
    exact h.set i1 p1 (p2.trans h.ll) h.ep h.pr
   ·exact hm
  ·rw[rz hh hg e e1];exact hm
theorem Cv(a:Ap)(t:Nt)(w:Wk)(l:Int)(f:Fr):∃r,(V.report a t w l f).2={t with root:=r}:=by
 unfold V.report;split
 ·exact⟨-1,rfl⟩
 ·split
  ·exact⟨t.root,rfl⟩
  ·split<;>exact⟨t.root,rfl⟩
theorem dZ.IT(h:dZ a N c k t)(ha:fy a N)(n j:Int):dZ a N c (k+1) (V.cS a t n j).2.2:=by
 have hm:=h.mono (show k<=k+1 by omega);unfold V.cS;dsimp only;split
 ·exact hm
 ·next hn=>
  split
  ·exact hm
  ·next he=>
   have Hj:n.toNat<t.aX.length:=by omega
   obtain⟨e0,kn,x,F,R,h3,h4,h5⟩:=h.link ha (ln:=n.toNat) (by rw[<-h.ll];exact Hj);have hr:=vH (h.la _ (nK (d:=La.zero) Hj)).r (by simpa using he);rw[R,dG,getD_eq h4,AN];split
   ·exact hm
   ·next w hw=>
    have Ta:=ya ha h3 h5 (show Lk a n from⟨by omega,by rw[<-h.ll];omega⟩) hr.2.2.2.1 hw;have rW:∀y∈t.aX.set n.toNat (La.take (t.aX.getD n.toNat La.zero) j),qw a c y:=λy q=>by
     rcases kJ q with q|rfl
     ·exact h.la y q
     ·have h0:=h.la _ (nK (d:=La.zero) Hj);exact⟨hr.2.2.2.2.1,hr.2.2.2.2.2.1.trans h0.c,hr.2.2.2.2.2.2.trans h0.f⟩
    obtain⟨p1,p2⟩:=mY (Z:=w.Z) rW λo q=>by rw[fG,h.ll];exact(Ta.o o q).1
    obtain⟨r,hr⟩:=Cv a {t with aX:=V.du (t.aX.set n.toNat (La.take (t.aX.getD n.toNat La.zero) j)) w.Z,nodes:=t.nodes.set kn w.x} w n (La.nz (t.aX.getD n.toNat La.zero) j);rw[hr];exact h.set Ta.x p1 (p2.trans ((fG ..).trans h.ll)) h.ep h.pr
theorem dZ.N8(h:dZ a N c k t)(ha:fy a N)(n:Int):dZ a N c (k+1) (V.ed a t n).2.2:=by
 have hm:=h.mono (show k<=k+1 by omega);unfold V.ed;dsimp only;split
 ·exact hm
 ·next hh=>
  split
  ·exact hm
  ·split
   ·exact hm
   ·obtain⟨x,D,hg⟩:=yd (t:=t) (n:=n) (by simpa using hh);rw[hg,show V.start a x (t.aC+1)=V.kY a (V.lR x) (t.aC+1) from rfl];split
    ·exact hm
    ·next w hw=>
     have Ta:=vD ha (by rw[<-h.nl];exact(eD.1 D).1) (h.nd _ x D) hw;obtain⟨p1,p2⟩:=mY (Z:=w.Z) h.la λo q=>by rw[h.ll];exact(Ta.o o q).1
     obtain⟨r,hr⟩:=Cv a {t with aC:=t.aC+1,root:=n,nodes:=t.nodes.set n.toNat w.x,aX:=V.du t.aX w.Z} w 0 Fr.zero;rw[hr];exact h.set Ta.x p1 (p2.trans h.ll) (by have:=h.ep;show 0<=t.aC+1;omega) h.pr
theorem dZ.N9(h:dZ a N c k t)(ha:fy a N)(n:Int):dZ a N c (k+1) (V.ft a t n).2:=by
 have hm:=h.mono (show k<=k+1 by omega);unfold V.ft;dsimp only;split
 ·exact hm
 ·next hh=>
  split
  ·exact hm
  ·split
   ·exact hm
   ·split
    ·exact hm
    ·obtain⟨x,D,hg⟩:=yd (t:=t) (n:=n) (by simpa using hh);rw[hg];obtain⟨q1,q2⟩:=yc ha (h.nd _ x D) (t.dp+1);obtain⟨p1,p2⟩:=mY (Z:=(V.fD a x.h (t.dp+1)).2) h.la λo q=>by rw[h.ll];exact(q1 o q).1
     exact⟨p2.trans h.ll,hm.nl,p1,hm.nd,h.ep,by show 0<=t.dp+1;have:=h.pr;omega,h.c1⟩
theorem dZ.act(ha:fy a N){p:V.qz}(h:dZ a N c k p.fJ)(x:Int×Int×Int):dZ a N c (k+1) (V.act a p x).fJ:=by
 unfold V.act;split
 ·exact h.Q0 ha _ _
 ·split
  ·exact h.IT ha _ _
  ·split
   ·exact h.N8 ha _
   ·exact h.N9 ha _
end
end Go.Proofs.YtmgahjkopiaglaaGreat
