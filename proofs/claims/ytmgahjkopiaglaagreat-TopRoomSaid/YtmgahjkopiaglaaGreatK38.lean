/- Lemmas, walks and contracts by which the statement is proved. -/
import Derived.Test.YtmgahjkopiaglaaGreatK37
set_option maxRecDepth 100000
set_option maxHeartbeats 16000000
set_option linter.all false
namespace Go.Proofs.YtmgahjkopiaglaaGreat
open Go.RowKit Go.Proofs.Tryz
namespace Rc
def ge(b n:Nat):Bool:=fo b (floatOfInt .f64 (n:Int))==some .gt||fo b (floatOfInt .f64 (n:Int))==some .eq
def up(b:Nat):Nat->Nat->Nat
 |0,n=>n
 |f+1,n=>if ge b (n+1) then up b f (n+1) else n
def small(b:Nat):Bool:=decide (kind b<=4)||(decide (kind b=5)&&(fo b 4607182418800017408==some .lt))
end Rc
theorem aem(b:Nat)(w:World)(I:b<18446744073709551616):
 Calls prog 8 #[.float .f64 b] w λy w'=>y=.returned (if Rc.small b then .tuple #[aP,.int .i64 1] else .tuple #[.int .i64 (Rc.up b 19 1:Nat),aP])/\w=w':=by
 obtain⟨av,hR⟩:∃v:Value,(if Rc.small b then .tuple #[aP,.int .i64 1] else .tuple #[.int .i64 (Rc.up b 19 1:Nat),aP])=v:=⟨_,rfl⟩;rw[hR];change aK _ at hR;obtain⟨kd,ki⟩:=cJ (Rc.kind b);change aK _ at ki;go_in;go_wp2_with fail;refine(ZY b w I).mono ?_;clear I;rw[ki.Z];rintro _ _ ⟨rfl,rfl⟩;have Ma:Rc.small b=(decide (kd<=4)||(decide (kd=5)&&(fo b 4607182418800017408==some .lt))):=by unfold Rc.small;rw[ki.Z]
 change aK _ at Ma;by_cases F:kd<=4
 case pos=>
  have hs:Rc.small b=true:=by rw[Ma.Z,cV F];rfl
  change aK _ at hs;go_wp2;go_ret2;exact⟨by rw[<-hR.Z,hs.Z];rfl,rfl⟩
 cases R:(decide (kd=5)&&(fo b 4607182418800017408==some .lt))
 case true=>
  have hs:Rc.small b=true:=by rw[Ma.Z,R];simp
  change aK _ at hs;simp only[cQ,dC] at R;obtain⟨h3,h4⟩:=R;subst h3;clear F;go_wp2;go_ret2;exact⟨by rw[<-hR.Z,hs.Z];rfl,rfl⟩
 have hs:Rc.small b=false:=by rw[Ma.Z,R,bZ F];rfl
 change aK _ at hs;by_cases h3:kd=5;all_goals
  first |(subst h3;clear F;have h4:(fo b 4607182418800017408==some .lt)=false:=(by simpa using R);clear R)|(have h4:(kd==5)=false:=(by simpa using h3);clear h3 R)
  go_wp2;go_loopg [5] 19 (λq i wr=>∃n:Nat,i=.int .i64 (n:Int)/\1<=n/\n<=20/\q=20-n/\Rc.up b (20-n) n=Rc.up b 19 1/\wr=w)
  case atStart=>exact⟨1,rfl,by omega,by omega,by omega,rfl,rfl⟩
  case round=>
   obtain⟨n,rfl,rI,xm,hq,hu,rfl⟩:=hrel;change aK _ at hq hu;by_cases hn:n<20
   case neg=>
    obtain rfl:n=20:=by omega
    go_wp2;go_ret2;exact⟨by rw[<-hR.Z,hs.Z,<-hu.Z];rfl,rfl⟩
   have Gk:Rc.up b (20-n) n=if Rc.ge b (n+1) then Rc.up b (20-(n+1)) (n+1) else n:=by
    rw[show 20-n=(20-(n+1))+1 by omega];rfl
   change aK _ at Gk;cases hg:Rc.ge b (n+1)
   case false=>
    have Gg:(fo b (floatOfInt .f64 ((n:Int)+1))==some .gt||fo b (floatOfInt .f64 ((n:Int)+1))==some .eq)=false:=by unfold Rc.ge at hg;simpa using hg
    have hf:Rc.up b 19 1=n:=by rw[<-hu.Z,Gk.Z,hg];rfl
    change aK _ at hf;clear hg;go_wp2;go_ret2;exact⟨by rw[<-hR.Z,hs.Z,hf.Z];rfl,rfl⟩
   have Gg:(fo b (floatOfInt .f64 ((n:Int)+1))==some .gt||fo b (floatOfInt .f64 ((n:Int)+1))==some .eq)=true:=by unfold Rc.ge at hg;simpa using hg
   have hf:Rc.up b (20-(n+1)) (n+1)=Rc.up b 19 1:=by rw[<-hu.Z,Gk.Z,hg];rfl
   change aK _ at hf;clear hg;go_wp2;go_roundg (20-(n+1))
   case rel=>exact⟨n+1,by simp,by omega,by omega,rfl,hf.Z,rfl⟩
   case measure=>have:=hq.Z;omega
def RU(m:Nat)(i:Int)(n:Nat):Prop:=(0<=i->n<=m * 2^i.toNat)/\(i<0->n * 2^(-i).toNat<=m)
instance(m:Nat)(i:Int)(n:Nat):Decidable (RU m i n):=by unfold RU;infer_instance
theorem WU(a b:Nat):(some (compare ((a:Int)) (b:Int))==some .gt||some (compare (a:Int) (b:Int))==some .eq)=decide (b<=a):=by
 rcases Nat.lt_trichotomy a b with h|h|h
 ·have:compare (a:Int) (b:Int)=.lt:=by rw[Int.compare_eq_lt];omega
  rw[this,bZ (by omega)];rfl
 ·subst h;have:compare (a:Int) (a:Int)=.eq:=by rw[Int.compare_eq_eq]
  rw[this,cV bE];rfl
 ·have:compare (a:Int) (b:Int)=.gt:=by rw[Int.compare_eq_gt];omega
  rw[this,cV (by omega)];rfl
theorem Q5(m n k:Nat)(i:Int):((Ieee.Datum.number false m i).order (.number false (n * 2^k) (-(k:Int)))==some .gt||(Ieee.Datum.number false m i).order (.number false (n * 2^k) (-(k:Int)))==some .eq)=decide (RU m i n):=by
 have key:(Ieee.Datum.number false m i).order (.number false (n * 2^k) (-(k:Int)))=some (compare ((m * 2^(i-min i (-(k:Int))).toNat:Nat):Int) ((n * 2^k * 2^(-(k:Int)-min i (-(k:Int))).toNat:Nat):Int)):=by
  unfold Ieee.Datum.order Ieee.signed;simp[Ac]
 rw[key,WU];refine decide_eq_decide.2 ?_;unfold RU;have pp:∀e:Nat,0<2^e:=λe=>qM (by omega);by_cases Q:-(k:Int)<=i
 ·rw[Int.min_eq_right Q,show(-(k:Int)- -(k:Int)).toNat=0 by omega,Nat.pow_zero,nW];by_cases hi:0<=i
  ·obtain⟨q,rfl⟩:∃q:Nat,i=(q:Int):=⟨i.toNat,by omega⟩;rw[show((q:Int)- -(k:Int)).toNat=q+k by omega,Nat.pow_add,<-Nat.mul_assoc,Nat.mul_le_mul_right_iff (pp k)];rw[dG];exact⟨λh=>⟨λ_=>h,λh0=>absurd h0 (by omega)⟩,λh=>h.1 (by omega)⟩
  ·obtain⟨q,hq⟩:∃q:Nat,k=(-i).toNat+q:=⟨k-(-i).toNat,by omega⟩;rw[show(i- -(k:Int)).toNat=q by omega,hq,Nat.pow_add,<-Nat.mul_assoc,Nat.mul_le_mul_right_iff (pp q)];exact⟨λh=>⟨λh0=>absurd h0 hi,λ_=>h⟩,λh=>h.2 (by omega)⟩
 ·have hi:i<0:=by omega
  rw[Int.min_eq_left (by omega),show(i-i).toNat=0 by omega,Nat.pow_zero,nW,Nat.mul_assoc,<-Nat.pow_add,show k+(-(k:Int)-i).toNat=(-i).toNat by omega];exact⟨λh=>⟨λh0=>absurd h0 (by omega),λ_=>h⟩,λh=>h.2 hi⟩
theorem vI(n:Nat)(F:1<=n)(R:n<=20):∃k:Nat,FloatKind.f64.decode (floatOfInt .f64 (n:Int))=.number false (n * 2^k) (-(k:Int)):=by
 have:n=1\/n=2\/n=3\/n=4\/n=5\/n=6\/n=7\/n=8\/n=9\/n=10\/n=11\/n=12\/n=13\/n=14\/n=15\/n=16\/n=17\/n=18\/n=19\/n=20:=by omega
 rcases this with rfl |rfl |rfl |rfl |rfl |rfl |rfl |rfl |rfl |rfl |rfl |rfl |rfl |rfl |rfl |rfl |rfl |rfl |rfl |rfl
 ·exact⟨52,by decide+kernel⟩
 ·exact⟨51,by decide+kernel⟩
 ·exact⟨51,by decide+kernel⟩
 all_goals first |exact⟨50,by decide+kernel⟩|exact⟨49,by decide+kernel⟩|exact⟨48,by decide+kernel⟩
theorem Cz{b m n:Nat}{i:Int}(hd:FloatKind.f64.decode b=.number false m i)(F:1<=n)(R:n<=20):Rc.ge b n=decide (RU m i n):=by
 obtain⟨k,Q⟩:=vI n F R;have e:fo b (floatOfInt .f64 (n:Int))=(Ieee.Datum.number false m i).order (.number false (n * 2^k) (-(k:Int))):=by
  show(FloatKind.f64.decode b).order (FloatKind.f64.decode (floatOfInt .f64 (n:Int)))=_;rw[hd,Q]
 unfold Rc.ge;rw[e];exact Q5 m n k i
theorem Q6(n drop:Nat):Ieee.Toward.down.cut false n drop=n / 2^drop:=by
 unfold Ieee.Toward.cut;simp only[pt,Bool.toNat_false,iS,Nat.shiftLeft_eq,Nat.one_mul];by_cases h:drop<=n.log2+2
 ·rw[qJ h]
 ·rw[Nat.min_eq_right (by omega)];have F:n<2^(n.log2+1):=Nat.lt_log2_self;have R:2^(n.log2+1)<=2^(n.log2+2):=zW (by omega) (by omega);have h3:2^(n.log2+1)<=2^drop:=zW (by omega) (by omega);rw[Nat.div_eq_of_lt (by omega),Nat.div_eq_of_lt (by omega)]
def whole(m:Nat)(i:Int):Nat:=m * 2^i.toNat / 2^(-i).toNat
theorem ud(m:Nat)(i:Int)(n:Nat):RU m i n↔n<=whole m i:=by
 unfold RU whole;rw[Nat.le_div_iff_mul_le (qM (by omega))];by_cases hi:0<=i
 ·rw[show(-i).toNat=0 by omega];simp;exact⟨λh=>h.1 hi,λh=>⟨λ_=>h,λh0=>absurd hi (by omega)⟩⟩
 ·rw[show i.toNat=0 by omega];simp;exact⟨λh=>h.2 (by omega),λh=>⟨λh0=>absurd h0 hi,λ_=>h⟩⟩
theorem I2{b m:Nat}{i:Int}(hd:FloatKind.f64.decode b=.number false m i):∀(f n:Nat),1<=n->n+f=20->n<=whole m i->Rc.up b f n=min (whole m i) 20
 |0,n,_,R,h3=>by unfold Rc.up;omega
 |f+1,n,F,R,h3=>by
  unfold Rc.up;rw[Cz hd (by omega) (by omega)];by_cases h:n+1<=whole m i
  ·rw[cV ((ud m i (n+1)).2 h),aS rfl];exact I2 hd f (n+1) (by omega) (by omega) h
  ·rw[bZ (λq=>h ((ud m i (n+1)).1 q)),aO (by simp)];omega
theorem I3{b m:Nat}{i:Int}(hd:FloatKind.f64.decode b=.number false m i):Sc.floor b=FloatKind.f64.encode (.number false (whole m i) 0):=by
 unfold Sc.floor;rw[hd];show FloatKind.f64.encode (.number false (Ieee.Toward.down.cut false (m<<<i.toNat) (-i).toNat) 0)=_;rw[Q6,Nat.shiftLeft_eq];rfl
theorem Oa(n:Nat)(h:n<20):floatToIntVal .f64 (FloatKind.f64.encode (.number false n 0)) .i64=some (n:Int):=by
 have:n=0\/n=1\/n=2\/n=3\/n=4\/n=5\/n=6\/n=7\/n=8\/n=9\/n=10\/n=11\/n=12\/n=13\/n=14\/n=15\/n=16\/n=17\/n=18\/n=19:=by omega
 rcases this with rfl |rfl |rfl |rfl |rfl |rfl |rfl |rfl |rfl |rfl |rfl |rfl |rfl |rfl |rfl |rfl |rfl |rfl |rfl |rfl<;>decide+kernel
theorem Q7:(4607182418800017408:Nat)=floatOfInt .f64 1:=by decide+kernel
theorem Tp:(4626322717216342016:Nat)=floatOfInt .f64 20:=by decide+kernel
theorem Ob{b m:Nat}{i:Int}(hd:FloatKind.f64.decode b=.number false m i):Sc.OX b=decide (20<=whole m i):=by
 have h:=Cz hd (n:=20) (by omega) (by omega);unfold Rc.ge at h;unfold Sc.OX;rw[Tp];exact h.trans (decide_eq_decide.2 (ud m i 20))
theorem Ln(s t:Bool)(m n:Nat)(i j:Int):∃c,(Ieee.Datum.number s m i).order (.number t n j)=some c:=⟨_,rfl⟩
theorem I4{b m:Nat}{i:Int}(hd:FloatKind.f64.decode b=.number false m i):(fo b 4607182418800017408==some .lt)=decide (whole m i<1):=by
 have h:=Cz hd (n:=1) (by omega) (by omega);obtain⟨k,Q⟩:=vI 1 (by omega) (by omega);obtain⟨c,hc⟩:=Ln false false m (1 * 2^k) i (-(k:Int));have e:fo b (floatOfInt .f64 (1:Int))=some c:=by
  show(FloatKind.f64.decode b).order (FloatKind.f64.decode (floatOfInt .f64 (1:Int)))=_;rw[hd,<-hc];exact fS _ Q
 unfold Rc.ge at h;rw[Q7,e];have e2:fo b (floatOfInt .f64 ((1:Nat):Int))=some c:=e;rw[e2] at h;have g:=ud m i 1;cases c
 ·have:¬RU m i 1:=m6 h.symm;rw[cV (by have:=mt g.2 this;omega)];rfl
 ·have:RU m i 1:=eM h.symm;rw[bZ (by have:=g.1 this;omega)];rfl
 ·have:RU m i 1:=eM h.symm;rw[bZ (by have:=g.1 this;omega)];rfl
theorem Q8{b m:Nat}{i:Int}(I:b<2^63)(hd:FloatKind.f64.decode b=.number false m i):FloatKind.f64.decode (Op.negFloat .f64 b)=.number true m i:=by
 have e:Op.negFloat .f64 b=b+2^63:=by
  show b^^^2^63=b+2^63;apply Nat.eq_of_testBit_eq;intro j;rw[Nat.testBit_xor,Nat.add_comm,si];by_cases hj:j=63
  ·subst hj;rw[Nat.testBit_two_pow_add_eq];simp
  ·by_cases jx:j<63
   ·rw[Nat.testBit_two_pow_add_gt jx];simp[fT hj]
   ·have F:b.testBit j=false:=Nat.testBit_lt_two_pow (aU I (zW (by omega) (by omega)));have R:(2^63+b).testBit j=false:=Nat.testBit_lt_two_pow (aU (show 2^63+b<2^64 by omega) (zW (by omega) (by omega)));rw[F,R];simp[fT hj]
 rw[e];have F:(b+2^63) / 2^63 % 2=1:=by omega
 have R:(b+2^63) % 2^63=b:=by omega
 have h3:b / 2^63 % 2=0:=by omega
 have h4:b % 2^63=b:=by omega
 change Ieee.double.read b=_ at hd;show Ieee.double.read (b+2^63)=_;unfold Ieee.Format.read at hd⊢;have w:Ieee.double.signWeight=2^63:=rfl;rw[w] at hd⊢;rw[F,R];rw[h3,h4] at hd;dsimp only at hd⊢;split at hd
 ·next q=>rw[aS q];cases hd;rfl
 split at hd
 ·next q r=>rw[aO q,aS r];cases hd;rfl
 split at hd<;>cases hd
theorem Tq(a:Nat):(some (compare (a:Int) (0:Int))==some .lt)=false:=by
 rcases m7 a with rfl |h
 ·rfl
 ·rw[show compare (a:Int) 0=.gt by rw[Int.compare_eq_gt];omega];rfl
theorem EJ:FloatKind.f64.decode 0=.number false 0 (-1074):=by decide+kernel
theorem Q9:FloatKind.f64.decode 9218868437227405311=.number false 9007199254740991 971:=by decide+kernel
theorem Mr{b m:Nat}{i:Int}(hd:FloatKind.f64.decode b=.number false m i):fo b 0=some (compare ((m * 2^(i-min i (-1074)).toNat:Nat):Int) (0:Int)):=by
 show(FloatKind.f64.decode b).order (FloatKind.f64.decode 0)=_;rw[hd,EJ];unfold Ieee.Datum.order Ieee.signed;simp[Ac]
theorem Ts{b m:Nat}{i:Int}(I:b<2^63)(hd:FloatKind.f64.decode b=.number false m i):Sc.small b=decide (whole m i<1):=by
 unfold Sc.small;rw[I4 hd];by_cases h:whole m i<1
 ·rw[cV h,Bool.or_true]
 rw[bZ h,Bool.or_false];have hm:0<m:=by
  rcases m7 m with rfl |R
  ·exact absurd (show whole 0 i<1 by unfold whole;simp) h
  ·exact R
 have F:Sc.nan b=false:=by
  unfold Sc.nan;have:fo b b=some .eq:=by
   show(FloatKind.f64.decode b).order (FloatKind.f64.decode b)=_;rw[hd];unfold Ieee.Datum.order;simp
  rw[this];rfl
 have R:Sc.Q3 b=false:=by
  unfold Sc.Q3;have:fo (Op.negFloat .f64 b) 9218868437227405311=some .lt:=by
   show(FloatKind.f64.decode _).order (FloatKind.f64.decode _)=_;rw[Q8 I hd,Q9];unfold Ieee.Datum.order Ieee.signed;simp only[tD,Int.compare_eq_lt,Ac,if_true,tC,if_false];have p1:=qM (n:=(i-min i 971).toNat) (show 0<2 by omega);have p2:=qM (n:=((971:Int)-min i 971).toNat) (show 0<2 by omega);generalize (i-min i 971).toNat=x at *;generalize ((971:Int)-min i 971).toNat=y at *;have q1:(0:Int)<(m:Int) * ((2^x:Nat):Int):=by have:=tL hm p1;exact_mod_cast this
   have q2:(0:Int)<((9007199254740991:Nat):Int) * 2^y:=by exact_mod_cast tL (by omega) p2
   omega
  rw[this];rfl
 have h3:(fo b 0==some .lt)=false:=by rw[Mr hd];exact Tq _
 have h4:(fo b 0==some .gt)=true:=by
  rw[Mr hd];have:compare ((m * 2^(i-min i (-1074)).toNat:Nat):Int) (0:Int)=.gt:=by
   rw[Int.compare_eq_gt];exact Int.natCast_pos.2 (tL hm (qM (by omega)))
  rw[this];rfl
 have:¬Sc.kind b<=4:=by
  unfold Sc.kind;rw[F,R,h3,h4,aO (by decide),aO (by decide),aO (by decide),aS rfl];cases Sc.To b
  ·show ¬(5:Int)<=4;omega
  ·show ¬(6:Int)<=4;omega
 exact bZ this
theorem Tt{b m:Nat}{i:Int}(I:b<2^63)(hd:FloatKind.f64.decode b=.number false m i):Rc.small b=decide (whole m i<1):=by
 have XD:Rc.mi b=false:=by unfold Rc.mi;exact bZ (by omega)
 have hhi:Rc.hi b≠2047:=by
  intro e;unfold Rc.hi at e;have F:9218868437227405312<=b:=by omega
  change Ieee.double.read b=_ at hd;unfold Ieee.Format.read at hd;have w:Ieee.double.signWeight=2^63:=rfl;have w2:Ieee.double.binade=4503599627370496:=rfl;have w3:Ieee.double.infRung=9218868437227405312:=rfl;rw[w,w2,w3,show b % 2^63=b by omega] at hd;dsimp only at hd;rw[aO (by omega),aO (by omega)] at hd;split at hd<;>cases hd
 have Q:Rc.kind b=if Rc.hi b=0/\Rc.lo b=0 then 4 else 5:=by
  unfold Rc.kind Rc.rC;rw[aO hhi,XD];rfl
 unfold Rc.small;rw[I4 hd,Q];by_cases h0:Rc.hi b=0/\Rc.lo b=0
 ·rw[aS h0];have iv:b=0:=by have:=h0.1;have:=h0.2;unfold Rc.hi Rc.lo at *;omega
  subst iv;rw[EJ] at hd;cases hd;rw[show whole 0 (-1074)=0 by unfold whole;rw[Nat.zero_mul,Nat.zero_div]];rfl
 ·rw[aO h0];rfl
theorem Q'{b m:Nat}{i:Int}(I:b<2^63)(hd:FloatKind.f64.decode b=.number false m i):
 Sc.small b=Rc.small b/\(Sc.small b=false->(Sc.OX b=true->Rc.up b 19 1=20)/\(Sc.OX b=false->(∀s t,FloatKind.f64.decode b≠.nan s t)/\floatToIntVal .f64 (Sc.floor b) .i64=some ((Rc.up b 19 1:Nat):Int))):=by
 rw[Ts I hd,Tt I hd,Ob hd];refine⟨rfl,λh=>?_⟩;have F:=m6 h;rw[I2 hd 19 1 (by omega) rfl (by omega)];refine⟨λR=>by have:=eM R;omega,λR=>⟨λs t e=>(by rw[hd] at e;cases e),?_⟩⟩;have h3:=m6 R;rw[I3 hd,qJ (by omega)];exact Oa _ (by omega)
theorem Lo(b:Nat):FloatKind.f64.decode b=if b % 2^63<4503599627370496 then .number (b / 2^63 % 2==1) (b % 2^63) (-1074) else if b % 2^63<9218868437227405312 then .number (b / 2^63 % 2==1) (4503599627370496+b % 2^63 % 4503599627370496) (-1074+(b % 2^63 / 4503599627370496-1:Nat)) else if b % 2^63=9218868437227405312 then .infinity (b / 2^63 % 2==1) else .nan (b / 2^63 % 2==1) (b % 2^63-9218868437227405312):=by
 have e1:Ieee.double.signWeight=2^63:=rfl;have e2:Ieee.double.binade=4503599627370496:=rfl;have e3:Ieee.double.infRung=9218868437227405312:=rfl;have e4:Ieee.double.leastPlace=-1074:=by decide+kernel
 show Ieee.double.read b=_;unfold Ieee.Format.read;rw[e1,e2,e3,e4]
def Lp(b:Nat):Prop:=Sc.small b=Rc.small b/\(Sc.small b=false->(Sc.OX b=true->Rc.up b 19 1=20)/\(Sc.OX b=false->(∀s t,FloatKind.f64.decode b≠.nan s t)/\floatToIntVal .f64 (Sc.floor b) .i64=some ((Rc.up b 19 1:Nat):Int)))
theorem Lp.of{b:Nat}(F:Sc.small b=true)(R:Rc.small b=true):Lp b:=⟨by rw[F,R],λh=>by rw[F] at h;cases h⟩
theorem Ra{b:Nat}(I:b<2^64):Lp b:=by
 have hr:=Lo b;have JS:(b / 2^63 % 2==1)=decide (2^63<=b):=by
  by_cases h:2^63<=b
  ·rw[cV h];have:b / 2^63 % 2=1:=by omega
   rw[this];rfl
  ·rw[bZ h];have:b / 2^63 % 2=0:=by omega
   rw[this];rfl
 rw[JS] at hr;by_cases hn:9218868437227405312<b % 2^63
 ·
  have hd:∃s t,FloatKind.f64.decode b=.nan s t:=⟨_,_,by rw[hr,aO (by omega),aO (by omega),aO (by omega)]⟩;obtain⟨s,t,hd⟩:=hd;refine .of ?_ ?_
  ·have:Sc.nan b=true:=by
    unfold Sc.nan;have:fo b b=none:=by
     show(FloatKind.f64.decode b).order (FloatKind.f64.decode b)=_;rw[hd];rfl
    rw[this];rfl
   have k:Sc.kind b=0:=by unfold Sc.kind;rw[this,aS rfl]
   unfold Sc.small;rw[k];rfl
  ·have F:Rc.hi b=2047:=by unfold Rc.hi;omega
   have R:0<Rc.lo b:=by unfold Rc.lo;omega
   have k:Rc.kind b=0:=by unfold Rc.kind Rc.rC;rw[aS F,aS R]
   unfold Rc.small;rw[k];rfl
 by_cases hs:2^63<=b
 ·
  have hR:Rc.small b=true:=by
   have hm:Rc.mi b=true:=by unfold Rc.mi;exact cV (by omega)
   have:Rc.kind b<=4:=by
    unfold Rc.kind Rc.rC;rw[hm];repeat' split
    all_goals first |omega |(rename_i h;exact absurd rfl h)
   unfold Rc.small;rw[cV this];rfl
  refine .of ?_ hR;by_cases hi:b % 2^63=9218868437227405312
  ·obtain rfl:b=18442240474082181120:=by omega
   decide+kernel
  have hd:∃m i,FloatKind.f64.decode b=.number true m i:=by
   rw[cV hs] at hr;by_cases h:b % 2^63<4503599627370496
   ·exact⟨_,_,by rw[hr,aS h]⟩
   ·exact⟨_,_,by rw[hr,aO h,aS (by omega)]⟩
  obtain⟨m,i,hd⟩:=hd;have hl:(fo b 4607182418800017408==some .lt)=true:=by
   obtain⟨k,Q⟩:=vI 1 (by omega) (by omega);have:fo b 4607182418800017408=some .lt:=by
    rw[Q7];show(FloatKind.f64.decode b).order (FloatKind.f64.decode (floatOfInt .f64 ((1:Nat):Int)))=_;rw[hd,Q];unfold Ieee.Datum.order Ieee.signed;simp only[tD,Int.compare_eq_lt,Ac,if_true,tC,if_false];have p2:0<(1 * 2^k) * 2^(-(k:Int)-min i (-(k:Int))).toNat:=tL (tL (by omega) (qM (by omega))) (qM (by omega));have q2:(0:Int)<((1 * 2^k:Nat):Int) * ((2^(-(k:Int)-min i (-(k:Int))).toNat:Nat):Int):=by exact_mod_cast p2
    have q1:(0:Int)<=(m:Int) * ((2^(i-min i (-(k:Int))).toNat:Nat):Int):=by exact_mod_cast fH _
    omega
   rw[this];rfl
  unfold Sc.small;rw[hl,Bool.or_true]
 have aen:b<2^63:=by omega
 by_cases hi:b % 2^63=9218868437227405312
 ·obtain rfl:b=9218868437227405312:=by omega
  refine⟨by decide+kernel,λ_=>⟨λ_=>by decide+kernel,λh=>?_⟩⟩;exact absurd h (by decide+kernel)
 have hd:∃m i,FloatKind.f64.decode b=.number false m i:=by
  rw[bZ hs] at hr;by_cases h:b % 2^63<4503599627370496
  ·exact⟨_,_,by rw[hr,aS h]⟩
  ·exact⟨_,_,by rw[hr,aO h,aS (by omega)]⟩
 obtain⟨m,i,hd⟩:=hd;exact Q' aen hd
def Rc.iz(b:Nat):Int:=if Rc.small b then 0 else((Rc.up b 19 1:Nat):Int)
def Rc.tp(b:Nat):Int:=if Rc.small b then 1 else 0
theorem US(b:Nat)(w:World)(I:b<2^64):Calls prog 23 #[.float .f64 b] w λy w'=>y=.returned (.tuple #[.int .i64 (Rc.iz b),.int .i64 (Rc.tp b)])/\w=w':=by
 obtain⟨F,R⟩:=Ra I;refine(ael b w ((Rc.up b 19 1:Nat):Int) λq1 q2=>(R q1).2 q2).mono ?_;rintro y w' ⟨rfl,rfl⟩;refine⟨?_,rfl⟩;unfold Rc.iz Rc.tp;rw[<-F];cases q:Sc.small b
 ·cases q2:Sc.OX b
  ·rfl
  ·rw[(R q).1 q2];rfl
 ·rfl
theorem UT(b:Nat)(w:World)(I:b<2^64):Calls prog 8 #[.float .f64 b] w λy w'=>y=.returned (.tuple #[.int .i64 (Rc.iz b),.int .i64 (Rc.tp b)])/\w=w':=by
 refine(aem b w (by simpa using I)).mono ?_;rintro y w' ⟨rfl,rfl⟩;refine⟨?_,rfl⟩;unfold Rc.iz Rc.tp;cases q:Rc.small b<;>rfl
def V.iH(a:Ap)(b:Nat)(cI:List (Int×Int×Int)):Int:=
 if Gr.right a.n a.az=false then 10 else if Tb.right a.n a.az a.T=false then 11 else if Rc.tp b≠0 then Rc.tp b else if cI.all (λc=>sQ c.1 c.2.1 c.2.2) then 0 else 4
theorem CA(gA TA cA:Option Addr)(gk Tk ck:Nat)(a:Ap)(b:Nat)(cI:List (Int×Int×Int))(w:World)(S:Nat->Prop)(hS:∀b,S b->b<w.1.size)(h0:ay Y.msg false w S (.slice gA a.az.length gk) a.az)(F:ay Y.eC false w S (.slice TA a.T.length Tk) a.T)(R:ay Y.aQ false w S (.slice cA cI.length ck) cI)(I:b<2^64)(hL:a.az.length<=1000):
 Calls prog 6 #[.agg #[a.n,.slice gA a.az.length gk,.slice TA a.T.length Tk,a.bF,.float .f64 b,.slice cA cI.length ck]] w λy w'=>y=.returned (.int .i64 (V.iH a b cI))/\aY w w':=by
 obtain⟨av,hR⟩:=cJ (V.iH a b cI);rw[hR];unfold V.iH at hR;have XK:=h0.bounds;have VT:=F.bounds;have XJ:=R.bounds;change aK _ at hR hS;have HB:=U I;clear I;go_in;go_upto_region 1 with fail
 refine nw λW1 bx J=>?_;have O:=ch bx;go_wp2_with fail;refine(BB a.n _ a.az W1 ((h0.aE (dx hS J)).og λb q=>aU (hS b q) J.size) hL).mono ?_;clear O;rintro _ w2 ⟨rfl,I⟩;replace bx:=bx.next I;have ly:=dW J I;clear I J;cases q1:Gr.right a.n a.az
 case false=>
  have e:av=10:=by rw[<-hR.Z,q1,aS rfl]
  subst e;clear q1;go_wp2;go_ret;exact⟨rfl,ly⟩
 have e:=hR.Z;rw[q1,aO (by simp)] at e;have OI:=U e;clear e q1 hR;have O:=ch bx;go_wp2_with fail;refine(ri (.slice TA a.T.length Tk) (.slice gA a.az.length gk) a.T a.n a.az w2 S (j2 hS ly.size) (F.aE (dx hS ly)) (h0.aE (dx hS ly)) hL).mono ?_;clear O;rintro _ w3 ⟨rfl,I⟩;replace bx:=bx.next I;have fO:=dW ly I;clear I ly;cases q1:Tb.right a.n a.az a.T
 case false=>
  have e:av=11:=by rw[<-OI.Z,q1,aS rfl]
  subst e;clear q1;go_wp2;go_ret;exact⟨rfl,fO⟩
 have e:=OI.Z;rw[q1,aO (by simp)] at e;have OP:=U e;clear e q1 OI;have O:=ch bx;go_wp2_with fail;refine(US b w3 HB.Z).mono ?_;obtain⟨cn,hcn⟩:=cJ (Rc.iz b);obtain⟨ce,hce⟩:=cJ (Rc.tp b);rw[hcn,hce];rintro _ _ ⟨rfl,rfl⟩;by_cases q2:ce=0
 case neg=>
  have e:av=ce:=by rw[<-OP.Z,hce,aS q2]
  subst e;clear hcn hce;go_wp2;go_ret;exact⟨rfl,fO⟩
 have e:=OP.Z;rw[hce,aO (by simpa using q2)] at e;have X1:=U e;subst q2;clear e OP hcn hce;go_wp2;clear O;go_loopg [6,34] cI.length (λq _ i wr=>∃j:Nat,i=.int .i64 (j:Int)/\j<=cI.length/\q=cI.length-j/\aY w wr/\(cI.take j).all (λc=>sQ c.1 c.2.1 c.2.2)=true)
 case atStart=>exact⟨0,rfl,by omega,by omega,fO,rfl⟩
 case round=>
  clear fO bx;obtain⟨j,rfl,hj,Q,J,fg⟩:=hrel;change aK _ at Q fg;by_cases bY:j<cI.length
  case neg=>
   obtain rfl:j=cI.length:=by omega
   have e:av=0:=by rw[<-X1.Z,aS (by have:=fg.Z;rwa[iw] at this)]
   subst e;go_wp2;go_ret;exact⟨rfl,J⟩
  obtain⟨c,hc⟩:=Pc.get_at bY;have kH:=Pc.de hc;obtain⟨gc,oc,rfl,RM,c0,c1,c2⟩:=(R.arr.aE (dx hS J)).QF hc;have gg:gc<wr.1.size:=aU (hS gc RM) J.size;replace kH:=U kH;replace hc:=U hc;go_upto_region 11 with fail
  clear c0 c1 c2 gg;refine nw λW6 b6 I=>?_;have LY:=dW J I;clear I;have O:=ch b6;go_wp2_with fail;refine(PO c.1 c.2.1 c.2.2 W6).mono ?_;clear O;rintro _ w7 ⟨rfl,I⟩;have OU:=dW LY I;clear I b6;cases hm:sQ c.1 c.2.1 c.2.2
  case false=>
   have e:av=4:=by
    rw[<-X1.Z,aO];rw[eT];intro q;have:=q c (dV hc.Z);rw[hm] at this;cases this
   subst e;clear hm;go_wp2;go_ret;exact⟨rfl,OU⟩
  change aK _ at hm;go_wp2;go_roundg (cI.length-(j+1))
  case rel=>exact⟨j+1,by simp,by omega,rfl,OU,by rw[kH.Z,List.all_append,fg.Z];simp[hm.Z]⟩
  case measure=>have:=Q.Z;omega
end Go.Proofs.YtmgahjkopiaglaaGreat
