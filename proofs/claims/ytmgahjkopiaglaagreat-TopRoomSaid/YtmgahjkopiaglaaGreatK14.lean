/- Lemmas, walks and contracts by which the statement is proved. -/
import Derived.Test.YtmgahjkopiaglaaGreatK13
import Derived.Maps.Views
import Derived.Lib.SliceRun
import Derived.Lib.SlBuf
set_option maxRecDepth 100000
set_option maxHeartbeats 16000000
set_option linter.all false
namespace Go.Proofs.YtmgahjkopiaglaaGreat
open Go.RowKit Go.Proofs.Tryz Go.Maps
theorem Ko(v:Value)(xs:List (Int×Int))(w:World)(h:aM Y.msg false w 0 w.1.size v xs)(D:xs.length<=1000000):Calls prog 206 #[v] w
 λx w'=>(∃v',x=.returned v'/\aM Y.msg true w' w.1.size w'.1.size v' xs)/\aY w w':=(yu v xs w h D).mono λ_ _ ⟨⟨v',F,R⟩,h3⟩=>⟨⟨v',F,R.slice⟩,h3⟩
open Go.RowKit Go.Proofs.Tryz
theorem Tryz.Sl:(prog.info? 141).map (λi=>(i.zero,i.size,i.bytes))=some (some (.agg #[aP,aP]),2,16):=by kernel_rfl
section
variable{α:Type}{r:Y α}{one:List Int->α×List Int}{e:TypeId}{g lo gn gc B:Nat}{w wr w1:World}{l0:List Int}{j:Nat}{v:Value}{cs:List Value}
end
open Go.RowKit Go.Proofs.Tryz
section
variable{g gn gc lo gp av:Nat}{w0 w:World}{l:List Int}{cs:Array Value}
variable{a b c d e f:Value}
end
section
variable{w:World}{av:Nat}{T:TypeId}{a b c d e f:Value}
end
section
variable{g gn gc lo av:Nat}{w0 w:World}{P:Option Nat}{l:List Int}
end
open Go.RowKit Go.Proofs.Tryz
open Go.RowKit Go.Proofs.Tryz
section
variable{w w':World}{g k:Nat}{f:Nat->Pc.bG}
end
section
variable{w w':World}{g m:Nat}{p q:Pc.bG}
end
section
variable{P:Program}{w:World}{ops:Array Oper}{rest:List Oper}{o:Oper}{a:Act}{ao:Exit->Act->World->Prop}
end
section
variable{p:Pc.bG}
end
open Go.RowKit Go.Proofs.Tryz
namespace Pc
end Pc
open Go.RowKit Go.Proofs.Tryz
namespace Hu
abbrev PQ:=Int×Int
def ow:Nat->List Int->List PQ
 |_,[]=>[]
 |k,o::os=>((k:Int)+1,o)::ow (k+1) os
def has(l:List PQ)(s:Int):Bool:=l.any λm=>m.1==s
def kV(l:List PQ)(s:Int):Nat:=l.countP λm=>m.1==s
def rest(Z:List Int)(l:List PQ):List PQ:=(ow 0 Z).filter λm=> !has l m.1
def mixed(Z:List Int)(l:List PQ):Bool:=l.any λm=>decide (1<kV l m.1)|| !(ow 0 Z).contains m
theorem yA(k:Nat)(Z:List Int):(ow k Z).length=Z.length:=by
 induction Z generalizing k with
 |nil=>rfl
 |cons o os ih=>simp[ow,ih]
theorem Hm(k:Nat)(Z:List Int)(i:Nat):(ow k Z)[i]?=Z[i]?.map λo=>(((k+i:Nat):Int)+1,o):=by
 induction Z generalizing k i with
 |nil=>simp[ow]
 |cons o os ih=>
  cases i with
  |zero=>simp[ow]
  |succ i=>simp only[ow,eZ,ih];congr 2;funext o;simp;omega
theorem PR{k:Nat}{Z:List Int}{m:PQ}:m∈ow k Z↔∃i,i<Z.length/\m=(((k+i:Nat):Int)+1,Z.getD i 0):=by
 rw[List.mem_iff_getElem?];constructor
 ·rintro⟨i,hi⟩;rw[Hm] at hi;cases h:Z[i]? with
  |none=>rw[h] at hi;cases hi
  |some o=>
   rw[h] at hi;have hl:=(eD.1 h).1;exact⟨i,hl,by simp only[we,tD] at hi;rw[dB,h,<-hi];rfl⟩
 ·rintro⟨i,hi,rfl⟩;exact⟨i,by rw[Hm,eu hi];simp[dB,hi]⟩
theorem Sm{l:List PQ}{s:Int}:has l s=true↔∃x,x∈l/\x.1=s:=by simp[has,qI]
theorem LZ{l:List PQ}{s:Int}:0<kV l s↔has l s=true:=by rw[Sm];simp[kV,List.countP_pos_iff]
theorem M4(k:Nat)(Z:List Int)(o:Int):ow k (Z++[o])=ow k Z++[(((k+Z.length:Nat):Int)+1,o)]:=by
 induction Z generalizing k with
 |nil=>simp[ow]
 |cons a os ih=>simp only[ow,nU,ih,fF];congr 4;congr 1;omega
end Hu
open Go.RowKit Go.Proofs.Tryz Go.Maps
theorem BD:Keyed prog 3:=int_keyed underlying3
theorem py(w:World):(zeroValue 3).run prog w=.ok (.int .i64 0) w:=by kernel_rfl
def Wf(n:Int):Prop:=(Lit.int .i64 n).wf=true
theorem Uf{n:Int}(h:-9223372036854775808<=n)(h':n<=9223372036854775807):Wf n:=by
 unfold Wf Lit.wf;rw[cQ];exact⟨cV h,cV h'⟩
def jG(w:World)(b:Nat)(xs:List (Int×Int)):Prop:=
 ∃(ab:DataW Unit)(n:Nat),w.ownsMap prog 3 (plainElem prog 3) b n ab/\n<=xs.length/\∀s,ab.atKey (.int .i64 s) (.lit (.int .i64 0))=.lit (.int .i64 (Hu.kV xs s))
theorem jG.next{w w':World}{b:Nat}{xs:List (Int×Int)}(h:jG w b xs)(I:aY w w'):jG w' b xs:=by
 obtain⟨ab,n,F,R,h3⟩:=h;have:=F.lt;exact⟨ab,n,F.kept (row:=none) ⟨I.os,I.tape,I.output,I.size,λi hi _=>I.block i hi⟩ (by simp),R,h3⟩
instance{w w':World}{b:Nat}{xs:List (Int×Int)}:Nx w w' (jG w b xs) (jG w' b xs):=⟨λq p=>p.next q⟩
theorem jG.lt{w:World}{b:Nat}{xs:List (Int×Int)}(h:jG w b xs):b<w.1.size:=by
 obtain⟨ab,n,F,R,h3⟩:=h;exact F.lt
theorem jG.made(w:World):jG (w.alloc (.map #[] 0)) w.1.size []:=⟨_,0,zY _ _ _ _,by simp,λs=>rfl⟩
theorem od(xs:List (Int×Int))(m:Int×Int)(s:Int):Hu.kV (xs++[m]) s=Hu.kV xs s+if m.1=s then 1 else 0:=by
 unfold Hu.kV;rw[List.countP_append,List.countP_cons,List.countP_nil];simp only[mz,iR]
theorem Bk(xs:List (Int×Int))(s:Int):Hu.kV xs s<=xs.length:=List.countP_le_length
theorem jG.step{w w1:World}{b:Nat}{xs:List (Int×Int)}{m:Int×Int}{ab:DataW Unit}{n:Nat}{c:Int}(cG:w.ownsMap prog 3 (plainElem prog 3) b n ab)(hn:n<=xs.length)(D:xs.length<=1000000)
 (hD:∀s,ab.atKey (.int .i64 s) (.lit (.int .i64 0))=.lit (.int .i64 (Hu.kV xs s)))(hc:ab.atKey (.int .i64 m.1) (.lit (.int .i64 0))=.lit (.int .i64 c))
 (F:w1.ownsMap prog 3 (plainElem prog 3) b (n+1) (ab.put (.int .i64 m.1) (.lit (.int .i64 (wrap64 (c+1)))))):jG w1 b (xs++[m]):=by
 refine⟨_,n+1,F,by simp;omega,λs=>?_⟩;have hm:=cG.isMap;by_cases hs:m.1=s
 ·subst hs;rw[zP (k:=.int .i64 m.1) hm trivial];rw[hD] at hc;injection hc with hc;injection hc with _ hc
  have:=Bk xs m.1;rw[od,aS rfl,<-hc,IntWalk.wrap64_in _ (by omega)];rfl
 ·rw[EO (by intro e;injection e with _ e;exact hs e.symm),hD,od,aO hs];rfl
theorem DV(v:Value)(xs:List (Int×Int))(w:World)(h:aM Y.msg false w 0 w.1.size v xs)(D:xs.length<=1000000)(pV:∀m∈xs,Wf m.1):Calls prog 228 #[v] w
 λy w'=>(∃b,y=.returned (.map (some b))/\w.1.size<=b/\jG w' b xs)/\aY w w':=by
 have Bl:=@run_makeMap prog;obtain⟨A,c,rfl,hl,hm,hA⟩:=h;replace hA:=U hA;replace pV:=U pV;go_in;go_wp2;go_loopg [9] xs.length (λk i wr=>∃j:Nat,i=.int .i64 (j:Int)/\j<=xs.length/\k=xs.length-j/\jG wr w.1.size (xs.take j)/\aY w wr)
 case atStart=>exact⟨0,rfl,by omega,by omega,jG.made w,cT.alloc bE _⟩
 case round=>
  obtain⟨j,rfl,hj,Q,hcnt,I⟩:=hrel;change aK _ at Q;by_cases bY:j<xs.length
  ·obtain⟨m,hm⟩:=Pc.get_at bY;obtain⟨g,o,rfl,_,hg,c0,c1⟩:=(hA.below I bE).msg hm;have hw:=pV.Z m (dV hm);have kH:=Pc.de hm;replace hm:=U hm;replace kH:=U kH;have jA:keyOf prog 3 (.int .i64 m.1)=some (.int .i64 m.1):=keyOf_int_mk underlying3 hw;obtain⟨ab,n,cG,hn,hD⟩:=hcnt;have dO:aY wr (wr.alloc (.cells #[m.1,m.2] 141)):=cT.alloc bE _;have L0:=cG.kept (row:=none) ⟨dO.os,dO.tape,dO.output,dO.size,λi hi _=>dO.block i hi⟩ (by simp);replace hD:=U hD;have xm:n<=1000000:=by simp at hn;omega
   go_wp2_with (first
    |(at_lookup;refine sh _ rfl _ _ 147 rfl 3 3 .i64 BD underlying147 underlying3 (py _) w.1.size n ab rfl L0 _ _ rfl jA ?_;intro c jK Rw)
    |(at_mapUpdate;refine wpList_mapUpdate_own _ rfl _ _ _ 147 rfl 3 3 BD underlying147 _ w.1.size n ab rfl L0 (by unfold maxLen;omega) _ _ _ rfl rfl jA _ [] (wj underlying3 (wrap64_wf _)) ?_;intro w1 ik xJ)
    |go_in)
   have gw:=jG.step (xs:=xs.take j) L0 hn (by simp;omega) hD.Z jK ik;rw[<-kH.Z] at gw;have fu:aY w w1:=(I.trans (dO.mono I.size)).grown xJ (bT I.size dO.size) (λj hj=>by cases hj;exact bE);clear jK cG L0 ik xJ hD kH;go_roundg (xs.length-(j+1))
   case rel=>exact⟨j+1,by simp,by omega,rfl,gw,fu⟩
   case measure=>have:=Q.Z;omega
  ·rw[jL (by omega)] at hcnt;go_wp2;go_ret;exact⟨⟨_,rfl,bE,hcnt⟩,I⟩
open Go.RowKit Go.Proofs.Tryz Go.Maps
def oB(w:World)(g o:Nat)(ys:List (Int×Int)):Prop:=
 ∀k m,ys[k]?=some m->w.cell? ⟨g,o+k * 2,none⟩=some (.int .i64 m.1)/\w.cell? ⟨g,o+k * 2+1,none⟩=some (.int .i64 m.2)/\w.frozen? ⟨g,o+k * 2,none⟩=false/\w.frozen? ⟨g,o+k * 2+1,none⟩=false
section
variable{w w':World}{g o lo hi:Nat}{ys xs:List (Int×Int)}{A:Option Addr}
theorem oB.of(h:dM Y.msg true w lo hi A xs)(hn:0<xs.length):∃g o,A=some ⟨g,o,none⟩/\lo<=g/\g<hi/\oB w g o xs:=by
 obtain⟨cells,F,R⟩:=id h;obtain⟨g,o,rfl,hg,_⟩:=R hn;refine⟨g,o,rfl,hg.1,hg.2,λk m Q=>?_⟩;obtain⟨g',o',cs,he,_,jr,h4⟩:=dm.at_ h Q;injection he with he;injection he with ur r'
 subst ur r';have acO:cs=[.int .i64 m.1,.int .i64 m.2]:=jr;subst acO;have e0:=h4 0 _ rfl;have e1:=h4 1 _ rfl;simp only[Y.msg,iS] at e0 e1;rw[<-fK] at e1;exact⟨e0.1,e1.1,e0.2 trivial,e1.2 trivial⟩
def lO(ys:List (Int×Int)):List Value:=ys.flatMap λm=>[m.1,m.2]
theorem FC(w:World)(S:Nat->Prop)(fr:Bool):∀ys:List (Int×Int),Y.msg.all fr w S (lO ys) ys:=by
 intro ys;induction ys with
 |nil=>exact rfl
 |cons m t ih=>exact⟨_,lO t,by simp[lO],rfl,ih⟩
theorem Hn:∀(ys:List (Int×Int))(j:Nat)(u:Value),(lO ys)[j]?=some u->∃k m,ys[k]?=some m/\((j=k * 2/\u=.int .i64 m.1)\/(j=k * 2+1/\u=.int .i64 m.2)):=by
 intro ys;induction ys with
 |nil=>intro j u h;simp[lO] at h
 |cons m t ih=>
  intro j u h;have e:lO (m::t)=.int .i64 m.1::.int .i64 m.2::lO t:=by simp[lO]
  rw[e] at h
  match j with
  |0=>simp at h;exact⟨0,m,rfl,.inl ⟨rfl,h.symm⟩⟩
  |1=>simp at h;exact⟨0,m,rfl,.inr ⟨rfl,h.symm⟩⟩
  |j+2=>
   simp only[eZ] at h;obtain⟨k,m',F,R⟩:=ih j u h;refine⟨k+1,m',F,?_⟩;rcases R with⟨R,h3⟩|⟨R,h3⟩
   ·exact .inl ⟨by omega,h3⟩
   ·exact .inr ⟨by omega,h3⟩
theorem oB.at_(h:oB w g o ys)(F:lo<=g)(R:g<hi):dM Y.msg true w lo hi (some ⟨g,o,none⟩) ys:=by
 refine⟨lO ys,FC _ _ _ ys,λ_=>⟨g,o,rfl,⟨F,R⟩,λj u hj=>?_⟩⟩;obtain⟨k,m,Q,he⟩:=Hn ys j u hj;have hr:=h k m Q;rcases he with⟨rfl,rfl⟩|⟨rfl,rfl⟩
 ·exact⟨hr.1,λ_=>hr.2.2.1⟩
 ·rw[<-fK];exact⟨hr.2.1,λ_=>hr.2.2.2⟩
theorem oB.aE(h:oB w g o ys)(I:w'.1[g]?=w.1[g]?):oB w' g o ys:=by
 intro k m Q;rw[dy I,dy I,dU I,dU I];exact h k m Q
theorem oB.bd(h:oB w g o ys)(i:Nat)(m:Int×Int):oB ((w.setCell ⟨g,o+i * 2,none⟩ (.int .i64 m.1)).setCell ⟨g,o+i * 2+1,none⟩ (.int .i64 m.2)) g o (ys.set i m):=by
 intro k x Q;rw[zU,zU,zU,zU];by_cases MC:k=i
 ·subst MC;rw[List.getElem?_set] at Q;simp only[if_true] at Q;split at Q
  ·rename_i bY;injection Q with Q;subst Q
   have hr:=h k _ (eu bY);refine⟨?_,Bj (u0:=.int .i64 ys[k].2) ((qS (o:=o+k * 2) (by omega)).trans hr.2.1),hr.2.2⟩;rw[qS (by omega)];exact Bj hr.1
  ·cases Q
 ·rw[uK (fT MC)] at Q;have hr:=h k x Q;refine⟨?_,?_,hr.2.2⟩;all_goals
   rw[qS (by omega),qS (by omega)]
  ·exact hr.1
  ·exact hr.2.1
theorem oB.clear(h:oB w g o ys)(i n:Nat)(u:Value):oB (w.setCells g (o+i * 2) (List.replicate n u)) g o (ys.take i):=by
 intro k m Q;rw[zX] at Q;split at Q
 ·rename_i MC;have hr:=h k m Q;rw[World.cell?_setCells_out g _ _ _ _ (by intro _ _;left;show o+k * 2<o+i * 2;omega),World.cell?_setCells_out g _ _ _ _ (by intro _ _;left;show o+k * 2+1<o+i * 2;omega),World.frozen?_setCells,World.frozen?_setCells];exact hr
 ·cases Q
end
theorem BE(w:World)(ty:TypeId)(g o n c:Nat)(hn:0<n)(hc:∀j,j<n * 2->(w.cell? ⟨g,o+j,none⟩).isSome=true)(hf:∀j,j<n * 2->w.frozen? ⟨g,o+j,none⟩=false):
 (Builtin.clear_ #[93] ty #[.slice (some ⟨g,o,none⟩) n c]).run prog w=.ok (.tuple #[]) (w.setCells g o (List.replicate (n * 2) (.int .i64 0))):=by
 have hz:∀w,(zeroValue 141).run prog w=.ok (.agg #[aP,aP]) w:=λw=>by kernel_rfl
 have hzc:(Builtin.zeroCells (Value.agg #[aP,aP]).cells n).toList=List.replicate (n * 2) (.int .i64 0):=by
  apply List.ext_getElem
  ·simp[Builtin.zeroCells,Value.cells]
  ·intro i F R;simp only[Builtin.zeroCells,Value.cells,Array.getElem_toList,List.getElem_replicate];have h3:i % 2=0\/i % 2=1:=by omega
   rcases h3 with h3|h3<;>simp[h3]
 have gw:=run_storeCells_cells (P:=prog) g o (List.replicate (n * 2) (.int .i64 0)) 0 w (by simpa using hc) (by simpa using hf) (by intro v Rs;rw[List.eq_of_mem_replicate Rs];rfl);simp only[iS] at gw;obtain⟨m,rfl⟩:∃m,n=m+1:=⟨n-1,by omega⟩;simp[Builtin.clear_,kM underlying93,hz,hzc,gw]
theorem wN(v:Value)(xs:List Int)(w:World)(h:aM Y.int false w 0 w.1.size v xs)(D:xs.length<=1000000):Calls prog 229 #[v] w
 λy w'=>(∃v',y=.returned v'/\aM Y.msg true w' w.1.size w'.1.size v' (Hu.ow 0 xs))/\aY w w':=by
 obtain⟨A,c,rfl,hl,hm,hA⟩:=h;replace hA:=U hA;unfold maxLen at hm;go_in;go_wp2;go_loopg [3,8] xs.length (λk v i wr=>∃j:Nat,i=.int .i64 (j:Int)/\j<=xs.length/\k=xs.length-j/\Acc Y.msg 141 w.1.size wr v (Hu.ow 0 (xs.take j))/\aY w wr)
 case atStart=>exact⟨0,rfl,by omega,by omega,Acc.nil _ _ _ _,cT⟩
 case round=>
  obtain⟨j,rfl,hj,Q,ha,I⟩:=hrel;change aK _ at Q;by_cases bY:j<xs.length
  ·obtain⟨x,iF⟩:=Pc.get_at bY;obtain⟨g,o,rfl,_,hg,c0⟩:=(hA.below I bE).int iF;have kH:=Pc.de iF;clear iF;have Dc:Hu.ow 0 (xs.take (j+1))=Hu.ow 0 (xs.take j)++[((j:Int)+1,x)]:=by
    rw[kH,Hu.M4];simp[qJ hj]
   change aK _ at Dc;clear kH;have Hj:(Hu.ow 0 (xs.take j)).length<=1000000:=by rw[Hu.yA];simp;omega
   go_wp2_with (at_builtin;refine yi (r:=Y.msg) (y:=((j:Int)+1,x)) rfl (.tmp 13) (.tmp 18) 93 rfl w.1.size 141 Tryz.Sl underlying93 rfl (by omega) _ rfl ha (λb F R=>rfl) bE I.size 1 _ [.int .i64 ((j:Int)+1),x] rfl rfl rfl Hj ?_;intro v2 w2 yv Yt dO);rw[<-Dc.Z] at yv;go_roundg (xs.length-(j+1))
   case rel=>exact⟨j+1,by simp,by omega,rfl,yv,I.trans dO⟩
   case measure=>have:=Q.Z;omega
  ·rw[jL (by omega)] at ha;have HS:=U ha.slice;clear ha;go_wp2;go_ret;exact⟨⟨_,rfl,HS.Z⟩,I⟩
theorem jG.below{w w':World}{b B:Nat}{xs:List (Int×Int)}(h:jG w b xs)(I:Below B w w')(bY:b<B):jG w' b xs:=by
 obtain⟨ab,n,F,R,h3⟩:=h;obtain⟨es,clock,e1,e2⟩:=F;exact⟨ab,n,⟨es,clock,(I.block b bY).trans e1,e2⟩,R,h3⟩
theorem G.below{w w':World}{b B:Nat}{cs:Array Value}{T:TypeId}(h:G w b cs T)(I:Below B w w')(bY:b<B):G w' b cs T:=(I.block b bY).trans h
theorem DW(m:Int×Int)(g b:Nat)(seen:List (Int×Int))(w:World)(hw:Wf m.1)(fP:G w g #[.map (some b)] 147)(hc:jG w b seen):
 Calls prog 234 #[.agg #[m.1,m.2],.pointer g] w λy w'=>y=.returned (.bool (Hu.has seen m.1))/\aY w w':=by
 have dO:aY w (w.alloc (.cells #[m.1,m.2] 141)):=cT.alloc bE _;have oW:=hc.next dO;have Q:=qN (fP.next dO);obtain⟨ab,n,cG,hn,hD⟩:=oW;have jA:keyOf prog 3 (.int .i64 m.1)=some (.int .i64 m.1):=keyOf_int_mk underlying3 hw;replace hD:=U hD;clear hc fP;go_in;go_wp2_with (first
  |(at_lookup;refine sh _ rfl _ _ 147 rfl 3 3 .i64 BD underlying147 underlying3 (py _) b n ab rfl cG _ _ rfl jA ?_;intro c jK Rw)
  |go_in)
 go_ret;refine⟨?_,dO⟩;rw[hD.Z] at jK;injection jK with jK;injection jK with _ jK
 subst jK;congr 2;cases hh:Hu.has seen m.1
 ·have:¬0<Hu.kV seen m.1:=by rw[Hu.LZ,hh];simp
  simp;omega
 ·have:=Hu.LZ.2 hh;simp;omega
open Go.RowKit Go.Proofs.Tryz Go.Maps
namespace Pc
theorem BF{α:Type}(b:α->Bool):∀l:List α,(idx b l=-1/\clear b l l.length)\/∃(k:Nat)(x:α),idx b l=(k:Int)/\k<l.length/\l[k]?=some x/\b x=true/\clear b l k:=by
 intro l;cases h:l.any b with
 |false=>
  have hc:clear b l l.length:=by
   intro i y _ hy;rw[uL] at h;exact tF.2 (h y (dV hy))
  exact .inl ⟨gd hc,hc⟩
 |true=>
  have hf:(l.findIdx? b).isSome=true:=by rw[List.findIdx?_isSome];exact h
  obtain⟨k,Q⟩:=Option.isSome_iff_exists.1 hf;obtain⟨F,R,h3⟩:=List.findIdx?_eq_some_iff_getElem.1 Q;have hc:clear b l k:=by
   intro i y hi hy;obtain⟨h4,rfl⟩:=eD.1 hy;simpa using h3 i hi
  exact .inr ⟨k,l[k],iT hc (eu F) R,F,eu F,R,hc⟩
theorem BG{α:Type}{b:α->Bool}{l:List α}{k:Nat}(h:clear b l k):(l.take k).filter (λx=> !b x)=l.take k:=by
 rw[List.filter_eq_self];intro x D;obtain⟨i,hi,rfl⟩:=List.mem_take_iff_getElem.1 D;rw[h i _ (by omega) (eu (by omega))];rfl
end Pc
structure ny(p:(Int×Int)->Bool)(xs:List (Int×Int))(i j:Nat)(ys:List (Int×Int)):Prop where
 len:ys.length=xs.length
 rest:ys.drop j=xs.drop j
 kept:ys.take i=(xs.take j).filter λx=> !p x
 lt:i<j
section
variable{p:(Int×Int)->Bool}{xs ys:List (Int×Int)}{i j k:Nat}{m:Int×Int}
theorem ny.start(hc:Pc.clear p xs k)(hm:xs[k]?=some m)(hp:p m=true):ny p xs k (k+1) xs:=by
 refine⟨rfl,rfl,?_,Nat.lt_succ_self _⟩;rw[Pc.de hm,qG,Pc.BG hc];simp[hp]
theorem ny.at_(h:ny p xs i j ys):ys[j]?=xs[j]?:=by
 have:=fS (λl:List (Int×Int)=>l[0]?) h.rest;simpa using this
theorem Dd(b:Nat):∀(vs:List Value)(o:Nat)(w:World),(w.setCells b o vs).1.size=w.1.size:=by
 intro vs;induction vs with
 |nil=>intro o w;rfl
 |cons v vs ih=>intro o w;rw[World.setCells,ih];simp[World.setCell]
theorem DX{a b:List (Int×Int)}(h:a.drop j=b.drop j):a.drop (j+1)=b.drop (j+1):=by
 rw[<-List.drop_drop,<-List.drop_drop,h]
theorem ny.aE(h:ny p xs i j ys)(hm:xs[j]?=some m)(hp:p m=false):ny p xs (i+1) (j+1) (ys.set i m):=by
 have hj:=(eD.1 hm).1;have hi:=h.lt;have hl:=h.len;refine⟨by rw[fG,h.len],?_,?_,by omega⟩
 ·rw[List.drop_set_of_lt (by omega)];exact DX h.rest
 ·rw[Pc.de hm,qG,<-h.kept,zZ,List.take_set_of_le bE];simp[hp,show i<ys.length by omega]
theorem ny.skip(h:ny p xs i j ys)(hm:xs[j]?=some m)(hp:p m=true):ny p xs i (j+1) ys:=by
 refine⟨h.len,DX h.rest,?_,Nat.lt_succ_of_lt h.lt⟩;rw[Pc.de hm,qG,<-h.kept];simp[hp]
end
theorem Kq(g b:Nat)(seen:List (Int×Int))(v:Value)(xs:List (Int×Int))(w:World){fr:Bool}{lo:Nat}(h:aM Y.msg fr w lo w.1.size v xs)(pV:∀m∈xs,Wf m.1)(fP:G w g #[.map (some b)] 147)(hc:jG w b seen):
 Calls prog 239 #[v,.func (.func 234) #[] #[.pointer g]] w λx w'=>x=.returned (.int .i64 (Pc.idx (λm=>Hu.has seen m.1) xs))/\aY w w':=by
 obtain⟨A,c,rfl,hl,hm,hA⟩:=h;unfold maxLen at hm;replace hA:=U hA;replace pV:=U pV;replace fP:=U fP;replace hc:=U hc;go_in;go_wp2;go_loopg [5,8] xs.length (λk _ i wr=>∃j:Nat,i=.int .i64 (j:Int)/\j<=xs.length/\k=xs.length-j/\Pc.clear (λm:Int×Int=>Hu.has seen m.1) xs j/\aY w wr)
 case atStart=>exact⟨0,rfl,by omega,by omega,Pc.fI _ _,cT⟩
 case round=>
  obtain⟨j,rfl,hj,Q,hr,I⟩:=hrel;replace hr:=U hr;change aK _ at Q;by_cases bY:j<xs.length
  ·obtain⟨x,D⟩:=Pc.get_at bY;obtain⟨gx,o,rfl,_,hg,c0,c1⟩:=(hA.below I bE).msg D;have XA:=pV.Z x (dV D);replace D:=U D;go_wp2_with fail;refine(DW x g b seen _ XA (fP.next I) (hc.next I)).mono ?_;rintro e w1 ⟨rfl,ee⟩;cases ga:Hu.has seen x.1;all_goals
    change aK _ at ga;go_wp2_with fail
   ·go_roundg (xs.length-(j+1))
    case rel=>exact⟨j+1,by simp,by omega,rfl,Pc.ew hr.Z D.Z ga.Z,I.trans (ee.mono I.size)⟩
    case measure=>have:=Q.Z;omega
   ·go_ret;exact⟨by rw[Pc.iT hr.Z D.Z ga.Z];rfl,I.trans (ee.mono I.size)⟩
  ·go_wp2;go_ret;have jx:j=xs.length:=by omega
   subst jx;exact⟨by rw[Pc.gd hr.Z];rfl,I⟩
theorem Sn(g b B:Nat)(seen:List (Int×Int))(v:Value)(xs:List (Int×Int))(w:World)(h:aM Y.msg true w B w.1.size v xs)(D:xs.length<=1000000)(pV:∀m∈xs,Wf m.1)(fP:G w g #[.map (some b)] 147)(hc:jG w b seen)(hg:g<B)(I:b<B)(J:B<=w.1.size):
 Calls prog 233 #[v,.func (.func 234) #[] #[.pointer g]] w
  λy w'=>(∃v',y=.returned v'/\aM Y.msg true w' B w'.1.size v' (xs.filter λm=> !Hu.has seen m.1))/\Below B w w':=by
 have H:=Kq g b seen v xs w h pV fP hc;obtain⟨A,c,rfl,hl,hm,hA⟩:=h;unfold maxLen at hm;rcases Pc.BF (λm:Int×Int=>Hu.has seen m.1) xs with⟨hi,nN⟩|⟨k,m,hi,Q,hxk,hp,nN⟩
 ·rw[hi] at H;have hf:xs.filter (λm=> !Hu.has seen m.1)=xs:=by
   have:=Pc.BG nN;rwa[iw] at this
  rw[hf];replace H:=U H;replace hA:=U hA;clear nN pV fP hc hi hf;go_in;go_wp2_with fail;refine H.mono ?_;rintro e w1 ⟨rfl,ee⟩;go_wp2;go_ret;exact⟨⟨_,rfl,A,c,rfl,hl,by unfold maxLen;omega,(hA.below ee bE).aF bE ee.size⟩,ee.mono J⟩
 ·rw[hi] at H;have gw:=ny.start (p:=λm:Int×Int=>Hu.has seen m.1) nN hxk hp;obtain⟨gx,o,rfl,lV,Gg,ct⟩:=oB.of hA (by omega);replace H:=U H;replace gw:=U gw;have HR:=U ct;clear ct;replace pV:=U pV;replace fP:=U fP;replace hc:=U hc;clear hA nN hxk hp hi;have fz:((k:Int)==-1)=false:=beq_eq_false_iff_ne.2 (by omega);go_in;go_wp2_with fail;refine H.mono ?_;rintro e w1 ⟨rfl,ee⟩;go_wp2;go_loopg [5,6,7] (xs.length-(k+1)) (λq s5 s6 _ wr=>∃(i j:Nat)(ys:List (Int×Int)),s5=.int .i64 (i:Int)/\s6=.int .i64 (j:Int)/\j<=xs.length/\q=xs.length-j/\oB wr gx o ys/\ny (λm:Int×Int=>Hu.has seen m.1) xs i j ys/\Below B w wr)
  case atStart=>exact⟨k,k+1,xs,rfl,by simp,by omega,by omega,HR.aE (ee.block gx Gg),gw.Z,ee.mono J⟩
  case round=>
   obtain⟨i,j,ys,rfl,rfl,hj,hq,ct,hinv,qy⟩:=hrel;have HK:=U hq;clear hq;have PD:=hinv.lt;have hlen:=hinv.len;by_cases bY:j<xs.length
   ·obtain⟨x,D⟩:=Pc.get_at bY;have hy:=hinv.at_.trans D;obtain⟨c0,c1,f0,f1⟩:=ct j x hy;have XA:=pV.Z x (dV D);have ga:=fP.below qy hg;have OJ:=hc.below qy I;replace D:=U D;clear hy;replace ga:=U ga;replace OJ:=U OJ;replace ct:=U ct;replace hinv:=U hinv;go_wp2_with fail;have So:aY wr (wr.alloc (.cells #[x.1,x.2] 141)):=cT.alloc bE _;have Sq:G (wr.alloc (.cells #[x.1,x.2] 141)) wr.1.size #[x.1,x.2] 141:=G.new _ _ _;refine(DW x g b seen _ XA (ga.next So) (OJ.next So)).mono ?_;rintro e w2 ⟨rfl,dO⟩;replace Sq:=Sq.next dO;have pe:B<=wr.1.size:=bT J qy.size;replace dO:aY wr w2:=So.trans (dO.mono So.size);clear So;have DB:gx<wr.1.size:=aU Gg (by have:=qy.size;exact this);have ug:=ct.aE (dO.block gx DB);cases hpx:Hu.has seen x.1
    ·have Kr:=hinv.aE D.Z hpx;replace Kr:=U Kr;clear hpx c0 c1 f0 f1;obtain⟨y,hy⟩:=Pc.get_at (l:=ys) (j:=i) (by omega);obtain⟨c0,c1,f0,f1⟩:=ug i y hy;have DD:=ch Sq;have Fz:=ug.bd i x;replace Fz:=U Fz;clear ug hy Sq;go_wp2;go_roundg (xs.length-(j+1))
     case rel=>exact⟨i+1,j+1,ys.set i x,by simp,by simp,by omega,rfl,Fz.Z,Kr.Z,((qy.trans (dO.mono pe)).setCell lV _).setCell lV _⟩
     case measure=>have:=HK.Z;omega
    ·have Kr:=hinv.skip D.Z hpx;replace Kr:=U Kr;clear hpx;go_wp2;go_roundg (xs.length-(j+1))
     case rel=>exact⟨i,j+1,ys,rfl,by simp,by omega,rfl,ug,Kr.Z,qy.trans (dO.mono pe)⟩
     case measure=>have:=HK.Z;omega
   ·have wC:j=xs.length:=by omega
    subst wC;have xt:=hinv.kept;rw[iw] at xt;have hf:=ct.clear i (n:=(xs.length-i) * 2) (u:=.int .i64 0);have pa:=BE wr 0 gx (o+i * 2) (xs.length-i) (c-i) (by omega) (λq hq=>by
     obtain⟨y,hy⟩:=Pc.get_at (l:=ys) (j:=i+q / 2) (by omega);obtain⟨c0,c1,_,_⟩:=ct _ y hy;have kr:q % 2=0\/q % 2=1:=by omega
     rcases kr with kr|kr
     ·rw[show o+i * 2+q=o+(i+q / 2) * 2 by omega,c0];rfl
     ·rw[show o+i * 2+q=o+(i+q / 2) * 2+1 by omega,c1];rfl) (λq hq=>by
     obtain⟨y,hy⟩:=Pc.get_at (l:=ys) (j:=i+q / 2) (by omega);obtain⟨_,_,f0,f1⟩:=ct _ y hy;have kr:q % 2=0\/q % 2=1:=by omega
     rcases kr with kr|kr
     ·rw[show o+i * 2+q=o+(i+q / 2) * 2 by omega,f0]
     ·rw[show o+i * 2+q=o+(i+q / 2) * 2+1 by omega,f1])
    replace xt:=U xt;replace hf:=U hf;clear ct hinv;have pd:(ys.take i).length=i:=by simp;omega
    go_wp2;go_ret;refine⟨⟨_,rfl,?_⟩,?_⟩
    ·rw[<-xt.Z];exact⟨some ⟨gx,o,none⟩,c,by rw[pd];rfl,by rw[pd];omega,by unfold maxLen;omega,hf.at_ lV (by rw[Dd];have:=qy.size;omega)⟩
    ·exact Go.Lib.below_setCells gx lV _ _ qy
theorem Sr{Z:List Int}(D:Z.length<=1000000):∀m∈Hu.ow 0 Z,Wf m.1:=by
 intro m hm;obtain⟨i,hi,rfl⟩:=Hu.PR.1 hm;exact Uf (by simp;omega) (by simp;omega)
theorem PS(v u:Value)(Z:List Int)(l:List (Int×Int))(w:World)(h:aM Y.int false w 0 w.1.size v Z)(h':aM Y.msg false w 0 w.1.size u l)(D:Z.length<=1000000)(hl:l.length<=1000000)(pV:∀m∈l,Wf m.1):
 Calls prog 208 #[v,u] w λy w'=>(∃v',y=.returned v'/\aM Y.msg true w' w.1.size w'.1.size v' (Hu.rest Z l))/\aY w w':=by
 have hmf:∀(fn:Fn)(first cap:Array Value)(w:World),(Instr.makeFunc fn first cap).run prog w=.ok (.func fn first cap) w:=λ_ _ _ _=>rfl;have hT:=DV u l w h' hl pV;replace hT:=U hT;replace h:=U h;obtain⟨A,c,rfl,_,hm,_⟩:=h';obtain⟨A',c',rfl,_,hm',_⟩:=id h.Z;clear pV;go_in;go_wp2_with fail;refine hT.mono ?_;rintro e w1 ⟨⟨b,rfl,iv,hc⟩,ee⟩;go_wp2_with fail;have So:aY w1 (w1.alloc (.cells #[.map (some b)] 147)):=cT.alloc bE _;have fP:=G.new w1 #[.map (some b)] 147;have oW:=hc.next So;have bY:=hc.lt;refine(wN _ Z _ ((h.below (ee.trans (So.mono ee.size)) bE).aF bE (by have:=ee.size;simp;omega)) D).mono ?_;rintro e w2 ⟨⟨v2,rfl,FD⟩,dO⟩;replace fP:=fP.next dO;replace oW:=oW.next dO;have hz:=dO.size;have xj:=ee.size;have hza:(w1.alloc (.cells #[.map (some b)] 147)).1.size=w1.1.size+1:=by simp
 rw[hza] at FD hz;go_wp2_with fail;refine(Sn w1.1.size b (w1.1.size+1) l v2 _ w2 FD (by rw[Hu.yA];exact D) (Sr D) fP oW (Nat.lt_succ_self _) (by omega) hz).mono ?_;rintro e w3 ⟨⟨v3,rfl,VA⟩,fu⟩;go_wp2;go_ret;exact⟨⟨v3,rfl,VA.aF (by omega) bE⟩,ee.trans ((So.mono xj).trans ((dO.mono (by omega)).trans (fu.mono (by omega))))⟩
open Go.RowKit Go.Proofs.Tryz Go.Maps
theorem FF(v:Value)(m:Int×Int)(xs:List (Int×Int))(w:World)(h:aM Y.msg false w 0 w.1.size v xs):
 Calls prog 240 #[v,.agg #[m.1,m.2]] w λx w'=>x=.returned (.int .i64 (Pc.idx (λx=>decide (x=m)) xs))/\aY w w':=by
 obtain⟨A,c,rfl,hl,hm,hA⟩:=h;obtain⟨m1,m2⟩:=m;dsimp only;unfold maxLen at hm;replace hA:=U hA;have iv:aY w (w.alloc (.cells #[m1,m2] 141)):=cT.alloc bE _;have fP:=G.new w #[m1,m2] 141;have HB:=U fP;clear fP;go_in;go_wp2;go_loopg [5,8] xs.length (λk _ i wr=>∃j:Nat,i=.int .i64 (j:Int)/\j<=xs.length/\k=xs.length-j/\Pc.clear (λx:Int×Int=>decide (x=(m1,m2))) xs j/\Quiet (w.alloc (.cells #[m1,m2] 141)) wr)
 case atStart=>exact⟨0,rfl,by omega,by omega,Pc.fI _ _,Quiet.refl _⟩
 case round=>
  obtain⟨j,rfl,hj,Q,hr,I⟩:=hrel;replace hr:=U hr;change aK _ at Q;have fP:G wr w.1.size #[m1,m2] 141:=by unfold G;rw[I.heap];exact HB.Z
  have DD:=ch fP;have qy:aY w wr:=iv.trans (I.below (B:=w.1.size));by_cases bY:j<xs.length
  ·obtain⟨⟨x1,x2⟩,D⟩:=Pc.get_at bY;obtain⟨gx,o,rfl,_,hg,c0,c1⟩:=(hA.below qy bE).msg D;dsimp only at c0 c1;replace D:=U D;clear fP;by_cases e1:m1=x1
   ·subst e1;have b1:(m1==m1)=true:=by simp
    by_cases e2:m2=x2
    ·subst e2;have b2:(m2==m2)=true:=by simp
     go_wp2_with fail;go_quiet (fail);go_wp2;go_ret;exact⟨by rw[Pc.iT hr.Z D.Z (by simp)];rfl,iv.trans ((I.drewN _).below)⟩
    ·have b2:(m2==x2)=false:=by simpa using e2
     replace e2:=U e2;go_wp2_with fail;go_quiet (fail);go_wp2;go_roundg (xs.length-(j+1))
     case rel=>exact⟨j+1,by simp,by omega,rfl,Pc.ew hr.Z D.Z (bZ (by intro e;exact e2 (Prod.mk.inj e).2.symm)),I.drewN _⟩
     case measure=>have:=Q.Z;omega
   ·have b1:(m1==x1)=false:=by simpa using e1
    replace e1:=U e1;go_wp2_with fail;go_quiet (fail);go_wp2;go_roundg (xs.length-(j+1))
    case rel=>exact⟨j+1,by simp,by omega,rfl,Pc.ew hr.Z D.Z (bZ (by intro e;exact e1 (by have:=fS Prod.fst e;exact this.symm))),I.drewN _⟩
    case measure=>have:=Q.Z;omega
  ·go_wp2;go_ret;have jx:j=xs.length:=by omega
   subst jx;exact⟨by rw[Pc.gd hr.Z];rfl,qy⟩
theorem y8(v:Value)(m:Int×Int)(xs:List (Int×Int))(w:World)(h:aM Y.msg false w 0 w.1.size v xs):
 Calls prog 232 #[v,.agg #[m.1,m.2]] w λx w'=>x=.returned (.bool (xs.contains m))/\aY w w':=by
 have iv:aY w (w.alloc (.cells #[m.1,m.2] 141)):=cT.alloc bE _;have hi:=FF v m xs (w.alloc (.cells #[m.1,m.2] 141)) ((h.below iv bE).aF bE iv.size);have hg:=Pc.nX (λx:Int×Int=>decide (x=m)) xs;have e:xs.contains m=xs.any λx=>decide (x=m):=by
  rw[Af,List.contains_iff_mem];simp
 rw[e];generalize Pc.idx (λx:Int×Int=>decide (x=m)) xs=i at hi hg;replace hi:=U hi;clear h;rw[<-hg.2];clear hg e;go_in;go_wp2_with fail;refine hi.mono ?_;rintro e w1 ⟨rfl,I⟩;go_wp2;go_ret;exact⟨rfl,iv.trans (I.mono iv.size)⟩
namespace Hu
def PT(l aQ:List PQ)(m:PQ):Bool:=decide (1<kV l m.1)|| !aQ.contains m
end Hu
theorem Ks(m:Int×Int)(g b g':Nat)(u:Value)(seen aQ:List (Int×Int))(w:World)(hw:Wf m.1)(fP:G w g #[.map (some b)] 147)(hc:jG w b seen)(yB:G w g' #[u] 93)(hs:aM Y.msg false w 0 w.1.size u aQ):
 Calls prog 231 #[.agg #[m.1,m.2],.pointer g,.pointer g'] w λy w'=>y=.returned (.bool (Hu.PT seen aQ m))/\aY w w':=by
 have dO:aY w (w.alloc (.cells #[m.1,m.2] 141)):=cT.alloc bE _;have oW:=hc.next dO;have Q:=qN (fP.next dO);have hk':=qN (yB.next dO);obtain⟨ab,n,cG,hn,hD⟩:=oW;have jA:keyOf prog 3 (.int .i64 m.1)=some (.int .i64 m.1):=keyOf_int_mk underlying3 hw;have hC:=y8 u m aQ (w.alloc (.cells #[m.1,m.2] 141)) ((hs.below dO bE).aF bE dO.size);replace hD:=U hD;clear hc fP;replace hC:=U hC;obtain⟨A,c,rfl,_⟩:=hs;by_cases hq:1<Hu.kV seen m.1
 ·have e:Hu.PT seen aQ m=true:=by simp[Hu.PT,hq]
  rw[e];go_in;go_wp2_with (at_lookup;refine sh _ rfl _ _ 147 rfl 3 3 .i64 BD underlying147 underlying3 (py _) b n ab rfl cG _ _ rfl jA ?_;intro c jK Rw;rw[hD.Z] at jK;injection jK with jK;injection jK with _ jK;subst jK);go_ret;exact⟨rfl,dO⟩
 ·have e:Hu.PT seen aQ m= !aQ.contains m:=by simp[Hu.PT,hq]
  rw[e];go_in;go_wp2_with (at_lookup;refine sh _ rfl _ _ 147 rfl 3 3 .i64 BD underlying147 underlying3 (py _) b n ab rfl cG _ _ rfl jA ?_;intro c jK Rw;rw[hD.Z] at jK;injection jK with jK;injection jK with _ jK;subst jK);refine hC.mono ?_;rintro e w1 ⟨rfl,I⟩;go_wp2;go_ret;have kr:decide ((1:Int)<(Hu.kV seen m.1:Int))=false:=bZ (by omega);refine⟨?_,dO.trans (I.mono dO.size)⟩;simp[kr]
theorem Kt(g b g':Nat)(u:Value)(seen aQ:List (Int×Int))(v:Value)(xs:List (Int×Int))(w:World)(h:aM Y.msg false w 0 w.1.size v xs)(pV:∀m∈xs,Wf m.1)(fP:G w g #[.map (some b)] 147)(hc:jG w b seen)(yB:G w g' #[u] 93)(hs:aM Y.msg false w 0 w.1.size u aQ):
 Calls prog 239 #[v,.func (.func 231) #[] #[.pointer g,.pointer g']] w λx w'=>x=.returned (.int .i64 (Pc.idx (Hu.PT seen aQ) xs))/\aY w w':=by
 obtain⟨A,c,rfl,hl,hm,hA⟩:=h;unfold maxLen at hm;replace hA:=U hA;replace pV:=U pV;replace fP:=U fP;replace hc:=U hc;replace yB:=U yB;replace hs:=U hs;go_in;go_wp2;go_loopg [5,8] xs.length (λk _ i wr=>∃j:Nat,i=.int .i64 (j:Int)/\j<=xs.length/\k=xs.length-j/\Pc.clear (Hu.PT seen aQ) xs j/\aY w wr)
 case atStart=>exact⟨0,rfl,by omega,by omega,Pc.fI _ _,cT⟩
 case round=>
  obtain⟨j,rfl,hj,Q,hr,I⟩:=hrel;replace hr:=U hr;change aK _ at Q;by_cases bY:j<xs.length
  ·obtain⟨x,D⟩:=Pc.get_at bY;obtain⟨gx,o,rfl,_,hg,c0,c1⟩:=(hA.below I bE).msg D;have XA:=pV.Z x (dV D);replace D:=U D;go_wp2_with fail;refine(Ks x g b g' u seen aQ _ XA (fP.next I) (hc.next I) (yB.next I) ((hs.below I bE).aF bE I.size)).mono ?_;rintro e w1 ⟨rfl,ee⟩;cases ga:Hu.PT seen aQ x;all_goals
    change aK _ at ga;go_wp2_with fail
   ·go_roundg (xs.length-(j+1))
    case rel=>exact⟨j+1,by simp,by omega,rfl,Pc.ew hr.Z D.Z ga.Z,I.trans (ee.mono I.size)⟩
    case measure=>have:=Q.Z;omega
   ·go_ret;exact⟨by rw[Pc.iT hr.Z D.Z ga.Z];rfl,I.trans (ee.mono I.size)⟩
  ·go_wp2;go_ret;have jx:j=xs.length:=by omega
   subst jx;exact⟨by rw[Pc.gd hr.Z];rfl,I⟩
theorem De(g b g':Nat)(u:Value)(seen aQ:List (Int×Int))(v:Value)(xs:List (Int×Int))(w:World)(h:aM Y.msg false w 0 w.1.size v xs)(pV:∀m∈xs,Wf m.1)(fP:G w g #[.map (some b)] 147)(hc:jG w b seen)(yB:G w g' #[u] 93)(hs:aM Y.msg false w 0 w.1.size u aQ):
 Calls prog 230 #[v,.func (.func 231) #[] #[.pointer g,.pointer g']] w λx w'=>x=.returned (.bool (xs.any (Hu.PT seen aQ)))/\aY w w':=by
 have hi:=Kt g b g' u seen aQ v xs w h pV fP hc yB hs;have hg:=Pc.nX (Hu.PT seen aQ) xs;generalize Pc.idx (Hu.PT seen aQ) xs=i at hi hg;replace hi:=U hi;clear fP hc yB hs h pV;rw[<-hg.2];clear hg;go_in;go_wp2_with fail;refine hi.mono ?_;rintro e w1 ⟨rfl,I⟩;go_wp2;go_ret;exact⟨rfl,I⟩
theorem DY(v u:Value)(Z:List Int)(l:List (Int×Int))(w:World)(h:aM Y.int false w 0 w.1.size v Z)(h':aM Y.msg false w 0 w.1.size u l)(D:Z.length<=1000000)(hl:l.length<=1000000)(pV:∀m∈l,Wf m.1):
 Calls prog 207 #[v,u] w λy w'=>y=.returned (.bool (Hu.mixed Z l))/\aY w w':=by
 have hmf:∀(fn:Fn)(first cap:Array Value)(w:World),(Instr.makeFunc fn first cap).run prog w=.ok (.func fn first cap) w:=λ_ _ _ _=>rfl;have hT:=DV u l w h' hl pV;replace hT:=U hT;replace h:=U h;have HI:=U h';replace pV:=U pV;obtain⟨A,c,rfl,_,hm,_⟩:=h';obtain⟨A',c',rfl,_,hm',_⟩:=id h.Z;go_in;go_wp2_with fail;refine hT.mono ?_;rintro e w1 ⟨⟨b,rfl,iv,hc⟩,ee⟩;go_wp2_with fail;refine(wN _ Z _ ((h.below ee bE).aF bE ee.size) D).mono ?_;rintro e w2 ⟨⟨v2,rfl,FD⟩,dO⟩;obtain⟨A2,c2,rfl,_,_,_⟩:=id FD;obtain⟨W,hW⟩:∃W,W=(w2.alloc (.cells #[.map (some b)] 147)).alloc (.cells #[.slice A2 (Hu.ow 0 Z).length c2] 93):=⟨_,rfl⟩;have PU:aY w2 W:=hW▸below_2 _ _ _;have iP:G W w2.1.size #[.map (some b)] 147:=hW▸(G.new _ _ _).alloc _;have iF:G W (w2.1.size+1) #[.slice A2 (Hu.ow 0 Z).length c2] 93:=by
  have:=G.new (w2.alloc (.cells #[.map (some b)] 147)) #[.slice A2 (Hu.ow 0 Z).length c2] 93;rw[hW];simpa using this
 have hcW:=(hc.next dO).next PU;have XB:aY w W:=ee.trans ((dO.mono ee.size).trans (PU.mono (bT ee.size dO.size)));have hiW:=(HI.below XB bE).aF bE XB.size;have hsW:=((FD.below PU bE).aF (fH _) PU.size).soft;have hC:=De w2.1.size b (w2.1.size+1) _ l _ _ l W hiW pV.Z iP hcW iF hsW;replace hC:=U hC;clear iP iF hcW hiW hsW;replace XB:=U XB;clear PU;change aK _ at hW;go_wp2_with fail;rw[<-hW.Z];refine hC.mono ?_;rintro e w3 ⟨rfl,fu⟩;go_wp2;go_ret;exact⟨rfl,XB.trans (fu.mono XB.size)⟩
open Go.RowKit Go.Proofs.Tryz Go.Maps
namespace Hu
structure Host where
 node:Int
 state:Int
 steps:Int
 bD:List (List (Int×Int))
 Z:List (List Int)
def Host.bare(h:Host):Pc.bG:=⟨h.node,h.state,h.steps,[],h.bD,h.Z⟩
def Host.told(h:Host):Pc.bG:=⟨h.node,h.state,h.steps,h.Z.map λl=>(l.length:Int),h.bD,h.Z⟩
def Host.sized(h:Host):Prop:=h.bD.length<=1000000/\h.Z.length<=1000000/\(∀x∈h.bD,x.length<=1000000)/\(∀x∈h.Z,x.length<=1000000)
theorem Host.ve{h:Host}(hs:h.sized):Pc.sized h.bare:=⟨by simp[Host.bare],hs.1,hs.2.1,hs.2.2.1,hs.2.2.2⟩
end Hu
section
variable{w:World}{av:Nat}{T:TypeId}{a b c d e:Value}
end
theorem BH(n s t:Int)(a b:Value)(A B:Option Addr)(k l k' l':Nat)(ha:a=.slice A k l)(I:b=.slice B k' l')(w:World):Calls prog 136 #[.agg #[n,s,t,a,b]] w
 λx w'=>x=.returned (.agg #[n,s,t,(),a,b])/\aY w w':=by
 subst ha I;go_in;go_wp2;refine bL (v:=.agg #[n,s,t,(),.slice A k l,.slice B k' l']) (by simp[results,results136,go_sem]) rfl ⟨rfl,below_2 _ _ _⟩
open Go.RowKit Go.Proofs.Tryz Go.Maps
open Go.RowKit Go.Proofs.Tryz Go.Maps
section
variable{w:World}{av:Nat}{T:TypeId}{x0 x1 x2 x3 x4 x5 x6:Value}
variable{a0 a1 a2 a3 a4 a5 a6:Value}{b:Nat}
end
theorem PV(e n s t x:Int)(a b c:Value)(w:World):Calls prog 213 #[.agg #[e,n,s,t,a,b,c],x] w
 λy w'=>y=.returned (.bool (decide (x<=e)))/\aY w w':=by
 by_cases h:x<=e
 ·rw[cV h];go_in;go_wp2;go_ret;exact⟨by simp,cT.alloc bE _⟩
 ·rw[bZ h];go_in;go_wp2;go_ret;exact⟨by simp,cT.alloc bE _⟩
end Go.Proofs.YtmgahjkopiaglaaGreat
namespace Go.Proofs.YtmgahjkopiaglaaGreat
open Go.RowKit Go.Proofs.Tryz
namespace Pn
def gM(aQ:Int):Int->List (Int×Int)->Bool
 |_,[]=>decide (0<=aQ)&&decide (aQ<=500)
 |last,m::l=>if m.1<=last\/aQ<m.1\/m.2<0\/4<=m.2 then false else gM aQ m.1 l
end Pn
theorem M5(v:Value)(xs:List (Int×Int))(aQ:Int)(w:World)(S:Nat->Prop)(hS:∀b,S b->b<w.1.size)(h:ay Y.msg false w S v xs):
 Calls prog 209 #[v,aQ] w λy w'=>y=.returned (.bool (Pn.gM aQ 0 xs))/\aY w w':=by
 obtain⟨A,c,rfl,hl,hm,hA⟩:=h;unfold maxLen at hm;obtain⟨av,hR⟩:=cJ (Pn.gM aQ 0 xs);rw[hR];change aK _ at hR hS;replace hA:=U hA;go_in;go_wp2;go_loopg [5,7,10] xs.length (λq la _ i wr=>∃(j:Nat)(l0:Int),i=.int .i64 (j:Int)/\la=.int .i64 l0/\j<=xs.length/\q=xs.length-j/\Pn.gM aQ l0 (xs.drop j)=av/\aY w wr)
 case atStart=>exact⟨0,0,rfl,rfl,by omega,by omega,hR.Z,cT⟩
 case round=>
  obtain⟨j,l0,rfl,rfl,hj,Q,hr,J⟩:=hrel;change aK _ at Q;by_cases bY:j<xs.length
  ·obtain⟨⟨x1,x2⟩,D⟩:=Pc.get_at bY;obtain⟨gx,o,rfl,hg,e0,e1⟩:=dm.yY (hA.aE (dx hS J)) D;dsimp only at e0 e1;have gg:gx<wr.1.size:=aU (hS gx hg) J.size;rw[AQ bY,(eD.1 D).2] at hr;change aK _ at hr;clear D;go_upto_region 5 with fail
   clear e0 e1 gg;refine jt λW1 bz I=>?_;refine Ru I J ?_;clear I J;intro _ J;have ab:=ch bz;by_cases q1:x1<=l0
   ·have HN:aK (av=false):=U (by rw[<-hr.Z];unfold Pn.gM;rw[aS (by omega)]);go_wp2;go_ret;exact⟨by rw[HN.Z];rfl,J⟩
   ·by_cases q2:x1>aQ
    ·have HN:aK (av=false):=U (by rw[<-hr.Z];unfold Pn.gM;rw[aS (by omega)]);go_wp2;go_ret;exact⟨by rw[HN.Z];rfl,J⟩
    ·by_cases q3:x2<0
     ·have HN:aK (av=false):=U (by rw[<-hr.Z];unfold Pn.gM;rw[aS (by omega)]);go_wp2;go_ret;exact⟨by rw[HN.Z];rfl,J⟩
     ·by_cases q4:x2>=4
      ·have HN:aK (av=false):=U (by rw[<-hr.Z];unfold Pn.gM;rw[aS (by omega)]);go_wp2;go_ret;exact⟨by rw[HN.Z];rfl,J⟩
      ·have HF2:aK (Pn.gM aQ x1 (xs.drop (j+1))=av):=U (by have h:=hr.Z;unfold Pn.gM at h;rw[aO (by omega)] at h;exact h);go_wp2;go_roundg (xs.length-(j+1))
       case rel=>exact⟨j+1,x1,by simp,rfl,by omega,rfl,HF2.Z,J⟩
       case measure=>have:=Q.Z;omega
  ·obtain rfl:j=xs.length:=by omega
   rw[List.drop_length] at hr;have HF:aK ((decide (0<=aQ)&&decide (aQ<=500))=av):=U hr;clear hr;cases q:decide (0<=aQ) with
   |false=>
    rw[q] at HF;go_wp2;go_ret;exact⟨by rw[<-HF.Z];rfl,J⟩
   |true=>
    rw[q] at HF;go_wp2;go_ret;exact⟨by rw[<-HF.Z];rfl,J⟩
end Go.Proofs.YtmgahjkopiaglaaGreat
