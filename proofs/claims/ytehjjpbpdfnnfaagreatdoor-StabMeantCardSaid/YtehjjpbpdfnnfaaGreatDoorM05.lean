import Derived.Test.YtehjjpbpdfnnfaaGreatDoorM00
import Derived.Test.YtehjjpbpdfnnfaaGreatDoorM04
namespace Go.Tz
open Go Go.AL Go.Ma
def mk(w X Z P:Nat):Ps:=⟨w,X,Z,P⟩
def pop:Nat->Nat->Nat
 | 0,_=>0
 | k+1,n=>pop k n+(n.testBit k).toNat
theorem zkq:∀ k,pop k 0=0
 | 0=>rfl
 | k+1=>by simp[pop,zkq k]
theorem pop_par(n:Nat):∀ k,parF k n=decide (pop k n%2=1)
 | 0=>rfl
 | k+1=>by
  simp only[parF,pop,pop_par n k]
  have key:∀(m:Nat) (t:Bool),(decide (m%2=1) != t)=decide ((m+t.toNat)%2=1):=by
   intro m t
   have:m%2=0\/m%2=1:=qad
   cases t
   ·exact qc3
   ·rcases this with h|h
    ·simp[h,Nat.add_mod]
    ·simp[h,Nat.add_mod]
  exact key _ _
theorem zik{w n:Nat}(h:n<2^w):∀ d,pop (w+d) n=pop w n
 | 0=>rfl
 | d+1=>by
  show pop (w+d) n+(n.testBit (w+d)).toNat=_
  rw[zik h d,Nat.testBit_lt_two_pow (Nat.lt_of_lt_of_le h (Nat.pow_le_pow_right qag qad))];rfl
def ph(a b c d:Bool):Nat:=match a,b,c,d with
 | false,false,_,_=>0
 | _,_,false,false=>0
 | true,false,true,false=>0
 | true,true,true,true=>0
 | false,true,false,true=>0
 | true,false,true,true=>1
 | true,true,false,true=>1
 | false,true,true,false=>1
 | true,true,true,false=>3
 | false,true,true,true=>3
 | true,false,false,true=>3
def phs(X Z X' Z':Nat):Nat->Nat
 | 0=>0
 | k+1=>phs X Z X' Z' k+ph (X.testBit k) (Z.testBit k) (X'.testBit k) (Z'.testBit k)
theorem phs_le(X Z X' Z':Nat):∀ k,phs X Z X' Z' k<=3*k
 | 0=>Nat.le_refl _
 | k+1=>by
  have:=phs_le X Z X' Z' k
  have:ph (X.testBit k) (Z.testBit k) (X'.testBit k) (Z'.testBit k)<=3:=by
   cases X.testBit k<;>cases Z.testBit k<;>cases X'.testBit k<;>cases Z'.testBit k<;>decide
  simp only[phs];omega
theorem phs_law(X Z X' Z':Nat):∀ k,(phs X Z X' Z' k+pop k ((X^^^X') &&& (Z^^^Z')))%4=(pop k (X &&& Z)+pop k (X' &&& Z')+2*pop k (Z &&& X'))%4
 | 0=>rfl
 | k+1=>by
  have ih:=phs_law X Z X' Z' k
  simp only[phs,pop,Nat.testBit_and,Nat.testBit_xor]
  revert ih
  generalize phs X Z X' Z' k=a
  generalize pop k ((X^^^X') &&& (Z^^^Z'))=b
  generalize pop k (X &&& Z)=c
  generalize pop k (X' &&& Z')=d
  generalize pop k (Z &&& X')=e
  intro ih
  cases X.testBit k<;>cases Z.testBit k<;>cases X'.testBit k<;>cases Z'.testBit k<;>simp[ph]<;>omega
theorem zu9{w X Z X' Z':Nat}(h1:X<2^w)(h2:Z<2^w):∀ d,phs X Z X' Z' (w+d)=phs X Z X' Z' w
 | 0=>rfl
 | d+1=>by
  show phs X Z X' Z' (w+d)+ph (X.testBit (w+d)) (Z.testBit (w+d)) (X'.testBit (w+d)) (Z'.testBit (w+d))=_
  have e:∀ n,n<2^w->n.testBit (w+d)=false:=fun n h=>Nat.testBit_lt_two_pow (Nat.lt_of_lt_of_le h (Nat.pow_le_pow_right qag qad))
  rw[zu9 h1 h2 d,e X h1,e Z h2];rfl
theorem zd7{X Z k:Nat}(hX:X<4096)(hZ:Z<4096)(hk:k<=64):letterI X Z k=if X.testBit k&&Z.testBit k then 2 else if X.testBit k then 1 else if Z.testBit k then 3 else 0:=by
 unfold letterI bitI
 rw[zem hk qad,zem hk qad]
 cases X.testBit k<;>cases Z.testBit k<;>simp
theorem zkt(A k:Nat):A%2^(k+1)=A%2^k+2^k*(A.testBit k).toNat:=by
 rw[Nat.pow_succ,Nat.mod_mul,Nat.testBit_eq_decide_div_mod_eq]
 have:A / 2^k%2=0\/A / 2^k%2=1:=qad
 rcases this with h|h<;>simp[h]
theorem with_nat{A B k l:Nat}(hk:k<=12)(_hA:A<4096)(_hB:B<4096):withI ((A%2^k:Nat):Int) ((B%2^k:Nat):Int) k l=(((A%2^k+(if l=1\/l=2 then 2^k else 0):Nat):Int),((B%2^k+(if l=2\/l=3 then 2^k else 0):Nat):Int)):=by
 have hp:(2:Nat)^k<=2^12:=Nat.pow_le_pow_right qag hk
 have h1:A%2^k<2^k:=Nat.mod_lt _ (Nat.two_pow_pos k)
 have h2:B%2^k<2^k:=Nat.mod_lt _ (Nat.two_pow_pos k)
 have b1:(A%2^k).testBit k=false:=Nat.testBit_lt_two_pow h1
 have b2:(B%2^k).testBit k=false:=Nat.testBit_lt_two_pow h2
 have hl:letterI ((A%2^k:Nat):Int) ((B%2^k:Nat):Int) k=0:=by
  rw[zd7 qad qad qad,b1,b2];rfl
 have hb:bitI ((B%2^k:Nat):Int) k=0:=by
  unfold bitI;rw[zem qad qad,b2];rfl
 unfold withI
 rw[hl,hb]
 have hs:ishl .i64 1 (k:Int)=((2^k:Nat):Int):=zcg qad
 have e1:iadd .i64 ((A%2^k:Nat):Int) ((2^k:Nat):Int)=((A%2^k+2^k:Nat):Int):=zah qad
 have e2:iadd .i64 ((B%2^k:Nat):Int) ((2^k:Nat):Int)=((B%2^k+2^k:Nat):Int):=zah qad
 have c1:((l:Int)=1\/(l:Int)=2) ↔ (l=1\/l=2):=qad
 have c2:((l:Int)=2\/(l:Int)=3) ↔ (l=2\/l=3):=qad
 dsimp only
 have d1:¬((0:Int)=1\/(0:Int)=2):=qag
 have d2:¬(0:Int)=1:=qag
 rw[if_neg d1,if_neg d2,hs,e1,e2]
 simp only[c1,c2]
 refine Prod.ext ?_ ?_
 ·dsimp only;split<;>rfl
 ·dsimp only;split<;>rfl
def lt(a b c d:Bool):Nat:=match a != c,b != d with
 | true,true=>2
 | true,false=>1
 | false,true=>3
 | false,false=>0
theorem turn_nat(a b c d:Bool):turnI (if a&&b then 2 else if a then 1 else if b then 3 else 0) (if c&&d then 2 else if c then 1 else if d then 3 else 0)=(((ph a b c d:Nat):Int),((lt a b c d:Nat):Int)):=by
 cases a<;>cases b<;>cases c<;>cases d<;>decide
theorem prd_nat(a b c d:Bool):prd (if a&&b then 2 else if a then 1 else if b then 3 else 0) (if c&&d then 2 else if c then 1 else if d then 3 else 0)=(((lt a b c d:Nat):Int),((ph a b c d:Nat):Int)):=by
 cases a<;>cases b<;>cases c<;>cases d<;>decide
theorem lt12(a b c d:Bool):(lt a b c d=1\/lt a b c d=2) ↔ (a != c)=true:=by
 cases a<;>cases b<;>cases c<;>cases d<;>decide
theorem lt23(a b c d:Bool):(lt a b c d=2\/lt a b c d=3) ↔ (b != d)=true:=by
 cases a<;>cases b<;>cases c<;>cases d<;>decide
theorem zvi{X Z X' Z' n0:Nat}(h1:X<4096)(h2:Z<4096)(h3:X'<4096)(h4:Z'<4096)(hn:n0<=100):∀{k:Nat},k<=12 ->
  mulI X Z X' Z' n0 k=((((X^^^X')%2^k:Nat):Int),(((Z^^^Z')%2^k:Nat):Int),((n0+phs X Z X' Z' k:Nat):Int))
 | 0,_=>by simp[mulI,phs,Nat.mod_one]
 | k+1,hk=>by
  have ih:=zvi h1 h2 h3 h4 hn (k:=k) qad
  have hx:X^^^X'<4096:=Nat.xor_lt_two_pow (n:=12) h1 h3
  have hz:Z^^^Z'<4096:=Nat.xor_lt_two_pow (n:=12) h2 h4
  have hp:=phs_le X Z X' Z' k
  have hph:ph (X.testBit k) (Z.testBit k) (X'.testBit k) (Z'.testBit k)<=3:=by
   cases X.testBit k<;>cases Z.testBit k<;>cases X'.testBit k<;>cases Z'.testBit k<;>decide
  simp only[mulI,ih,zd7 h1 h2 (show k<=64 by omega),zd7 h3 h4 (show k<=64 by omega),turn_nat]
  rw[with_nat qad hx hz,zah qad]
  refine Prod.ext ?_ (Prod.ext ?_ ?_)
  ·exact qg3
  ·exact qg2
  ·show((_:Nat):Int)=((_:Nat):Int)
   simp only[phs];rw[Nat.add_assoc]
theorem zum{X Z X' Z' n0:Nat}(h1:X<4096)(h2:Z<4096)(h3:X'<4096)(h4:Z'<4096)(hn:n0<=100):∀{k:Nat},k<=12 ->
  timI X Z X' Z' n0 k=((((X^^^X')%2^k:Nat):Int),(((Z^^^Z')%2^k:Nat):Int),((n0+phs X Z X' Z' k:Nat):Int))
 | 0,_=>by simp[timI,phs,Nat.mod_one]
 | k+1,hk=>by
  have ih:=zum h1 h2 h3 h4 hn (k:=k) qad
  have hx:X^^^X'<4096:=Nat.xor_lt_two_pow (n:=12) h1 h3
  have hz:Z^^^Z'<4096:=Nat.xor_lt_two_pow (n:=12) h2 h4
  have hp:=phs_le X Z X' Z' k
  have hph:ph (X.testBit k) (Z.testBit k) (X'.testBit k) (Z'.testBit k)<=3:=by
   cases X.testBit k<;>cases Z.testBit k<;>cases X'.testBit k<;>cases Z'.testBit k<;>decide
  have hp2:(2:Nat)^k<=2^12:=Nat.pow_le_pow_right qag qad
  have or_eq:∀(A:Nat) (t:Bool),A<4096->ior .i64 ((A%2^k:Nat):Int) (if t=true then ishl .i64 1 (k:Int) else 0)=((A%2^k+2^k*t.toNat:Nat):Int):=by
   intro A t hA
   have hlt:A%2^k<2^k:=Nat.mod_lt _ (Nat.two_pow_pos k)
   cases t with
   | true =>
    rw[if_pos rfl,zcg qad,zhz qad qad]
    have:=Nat.two_pow_add_eq_or_of_lt hlt 1
    rw[Nat.mul_one]at this
    rw[Nat.or_comm,<- this,Nat.add_comm];simp
   | false =>
    rw[if_neg qc3]
    have:=zhz (a:=A%2^k) (b:=0) qad qag
    rw[show((0:Nat):Int)=0 from rfl]at this
    rw[this];simp
  have one_x:∀ l:Nat,(oneS 0 (k:Int) (l:Int)).x=if(decide (l=1\/l=2))=true then ishl .i64 1 (k:Int) else 0:=by
   intro l
   show(if(l:Int)=1\/(l:Int)=2 then _ else _)=_
   have c1:((l:Int)=1\/(l:Int)=2) ↔ (l=1\/l=2):=qad
   simp only[c1,decide_eq_true_eq]
  have one_z:∀ l:Nat,(oneS 0 (k:Int) (l:Int)).z=if(decide (l=2\/l=3))=true then ishl .i64 1 (k:Int) else 0:=by
   intro l
   show(if(l:Int)=3\/(l:Int)=2 then _ else _)=_
   have c1:((l:Int)=3\/(l:Int)=2) ↔ (l=2\/l=3):=qad
   simp only[c1,decide_eq_true_eq]
  simp only[timI,ih,zd7 h1 h2 (show k<=64 by omega),zd7 h3 h4 (show k<=64 by omega),prd_nat]
  rw[zah qad,one_x,one_z,or_eq _ _ hx,or_eq _ _ hz]
  refine Prod.ext ?_ (Prod.ext ?_ ?_)
  ·exact qg3
  ·exact qg2
  ·show((_:Nat):Int)=((_:Nat):Int)
   simp only[phs];rw[Nat.add_assoc]
def Vl(w:Nat)(q:Ps):Prop:=∃ X Z P:Nat,q=mk w X Z P/\X<2^w/\Z<2^w/\P<4
theorem zta{w X Z P X' Z' P':Nat}(hw:w<=12)(h1:X<2^w)(h2:Z<2^w)(h3:X'<2^w)(h4:Z'<2^w)(hP:P<4)(hP':P'<4) :
  mulS (mk w X Z P) (mk w X' Z' P')=mk w (X^^^X') (Z^^^Z') ((P+P'+phs X Z X' Z' w)%4):=by
 have hp:(2:Nat)^w<=2^12:=Nat.pow_le_pow_right qag hw
 have e0:iadd .i64 (P:Int) (P':Int)=((P+P':Nat):Int):=zah qad
 unfold mulS mk
 dsimp only
 rw[Int.toNat_natCast,e0,zvi qad qad qad qad qad hw]
 rw[Nat.mod_eq_of_lt (Nat.xor_lt_two_pow h1 h3),Nat.mod_eq_of_lt (Nat.xor_lt_two_pow h2 h4)]
 simp only[Ps.mk.injEq,true_and]
 rw[Int.tmod_eq_emod_of_nonneg qad]
 rfl
theorem timS_mk{w X Z P X' Z' P':Nat}(hw:w<=12)(h1:X<2^w)(h2:Z<2^w)(h3:X'<2^w)(h4:Z'<2^w)(hP:P<4)(hP':P'<4) :
  timS (mk w X Z P) (mk w X' Z' P')=mk w (X^^^X') (Z^^^Z') ((P+P'+phs X Z X' Z' w)%4):=by
 have hp:(2:Nat)^w<=2^12:=Nat.pow_le_pow_right qag hw
 have e0:iadd .i64 (P:Int) (P':Int)=((P+P':Nat):Int):=zah qad
 unfold timS mk
 dsimp only
 rw[Int.toNat_natCast,e0,zum qad qad qad qad qad hw]
 rw[Nat.mod_eq_of_lt (Nat.xor_lt_two_pow h1 h3),Nat.mod_eq_of_lt (Nat.xor_lt_two_pow h2 h4)]
 simp only[Ps.mk.injEq,true_and]
 rw[Int.tmod_eq_emod_of_nonneg qad]
 rfl
theorem zsi{w:Nat}{q r:Ps}(hw:w<=12)(hq:Vl w q)(hr:Vl w r):timS q r=mulS q r:=by
 obtain⟨X,Z,P,rfl,h1,h2,h3⟩:=hq
 obtain⟨X',Z',P',rfl,h4,h5,h6⟩:=hr
 rw[timS_mk hw h1 h2 h4 h5 h3 h6,zta hw h1 h2 h4 h5 h3 h6]
theorem zes{w:Nat}{q r:Ps}(hw:w<=12)(hq:Vl w q)(hr:Vl w r):Vl w (mulS q r):=by
 obtain⟨X,Z,P,rfl,h1,h2,h3⟩:=hq
 obtain⟨X',Z',P',rfl,h4,h5,h6⟩:=hr
 rw[zta hw h1 h2 h4 h5 h3 h6]
 exact⟨_,_,_,rfl,Nat.xor_lt_two_pow h1 h4,Nat.xor_lt_two_pow h2 h5,Nat.mod_lt _ qag⟩
theorem vl_w{w:Nat}{q:Ps}(h:Vl w q):q.w=w:=by obtain⟨X,Z,P,rfl,_⟩:=h;rfl
def nf(q:Ps):E:=((q.p.toNat+pop 12 (q.x.toNat &&& q.z.toNat))%4,q.x.toNat+4096*q.z.toNat)
theorem zcq(w X Z P:Nat):nf (mk w X Z P)=((P+pop 12 (X &&& Z))%4,X+4096*Z):=by simp[nf,mk]
theorem zed{X Z:Nat}(hX:X<4096)(j:Nat):(X+4096*Z).testBit j=if j<12 then X.testBit j else Z.testBit (j-12):=by
 have:=Nat.testBit_two_pow_mul_add Z (show X<2^12 from hX) j
 rw[Nat.add_comm];exact this
theorem zsb{X Z X' Z':Nat}(h1:X<4096)(h2:X'<4096):(X+4096*Z)^^^(X'+4096*Z')=(X^^^X')+4096*(Z^^^Z'):=by
 refine Nat.eq_of_testBit_eq fun j=>?_
 rw[Nat.testBit_xor,zed h1,zed h2,zed (Nat.xor_lt_two_pow (n:=12) h1 h2)]
 split<;>rw[Nat.testBit_xor]
theorem zp9{X Z X' Z':Nat}(h1:X<4096)(_h2:X'<4096):bt (X+4096*Z) (X'+4096*Z')=decide (pop 12 (Z &&& X')%2=1):=by
 rw[<- pop_par]
 unfold bt
 have e:(X+4096*Z) >>> 12=Z:=by
  rw[Nat.shiftRight_eq_div_pow]
  show(X+4096*Z) / 4096=Z
  omega
 rw[e]
 have:∀ k,k<=12->parF k (Z &&& (X'+4096*Z'))=parF k (Z &&& X'):=by
  intro k
  induction k with
  | zero=>intro _;rfl
  | succ k ih =>
   intro hk
   simp only[parF,ih qad,Nat.testBit_and]
   rw[zed _h2,if_pos qad]
 exact this 12 (Nat.le_refl _)
theorem zd1{w:Nat}{q r:Ps}(hw:w<=12)(hq:Vl w q)(hr:Vl w r):nf (mulS q r)=emul (nf q) (nf r):=by
 obtain⟨X,Z,P,rfl,h1,h2,h3⟩:=hq
 obtain⟨X',Z',P',rfl,h4,h5,h6⟩:=hr
 have hp:(2:Nat)^w<=2^12:=Nat.pow_le_pow_right qag hw
 rw[zta hw h1 h2 h4 h5 h3 h6]
 simp only[zcq,emul]
 refine zc6 ?_ ?_
 ·dsimp only
  rw[zp9 qad qad]
  have hl:=phs_law X Z X' Z' 12
  have hs:=zu9 (X':=X') (Z':=Z') h1 h2 (12-w)
  rw[show w+(12-w)=12 by omega]at hs
  rw[hs]at hl
  have hb:(decide (pop 12 (Z &&& X')%2=1)).toNat=pop 12 (Z &&& X')%2:=by
   have:pop 12 (Z &&& X')%2=0\/pop 12 (Z &&& X')%2=1:=qad
   rcases this with h|h<;>simp[h]
  rw[hb]
  omega
 ·dsimp only
  rw[zsb qad qad]
theorem zq5{w:Nat}{q r:Ps}(hw:w<=12)(hq:Vl w q)(hr:Vl w r)(h:nf q=nf r):q=r:=by
 obtain⟨X,Z,P,rfl,h1,h2,h3⟩:=hq
 obtain⟨X',Z',P',rfl,h4,h5,h6⟩:=hr
 have hp:(2:Nat)^w<=2^12:=Nat.pow_le_pow_right qag hw
 rw[zcq,zcq,Prod.mk.injEq]at h
 obtain⟨e1,e2⟩:=h
 have eX:X=X':=qad
 have eZ:Z=Z':=qad
 subst eX eZ
 have:P=P':=qad
 subst this;rfl
theorem nf_lt(q:Ps):(nf q).1<4:=Nat.mod_lt _ qag
theorem zpo{w:Nat}{q r:Ps}(hw:w<=12)(hq:Vl w q)(hr:Vl w r):mulS q r=mulS r q ↔ ecom (nf q) (nf r):=by
 constructor
 ·intro h
  have h1:=congrArg nf h
  rw[zd1 hw hq hr,zd1 hw hr hq]at h1
  have h2:=congrArg Prod.fst h1
  simp only[emul]at h2
  unfold ecom
  cases e1:bt (nf q).2 (nf r).2<;>cases e2:bt (nf r).2 (nf q).2<;>rw[e1,e2]at h2<;>simp at h2⊢<;>omega
 ·intro h
  refine zq5 hw (zes hw hq hr) (zes hw hr hq) ?_
  rw[zd1 hw hq hr,zd1 hw hr hq,zcc h]
end Go.Tz
namespace Go.Tz
open Go Go.AL Go.Proofs Go.Ma
variable{G:Nat->Option (List D)}
def oc1(n:Int):Int:=iadd .u64 (iand .u64 (ishr .u64 n 1) 6148914691236517205) (iand .u64 n 6148914691236517205)
def oc2(n:Int):Int:=iadd .u64 (iand .u64 (ishr .u64 n 2) 3689348814741910323) (iand .u64 n 3689348814741910323)
def oc3(n:Int):Int:=iand .u64 (iadd .u64 (ishr .u64 n 4) n) 1085102592571150095
def ocs(k n:Int):Int:=iadd .u64 n (ishr .u64 n k)
def ocI(n:Int):Int:=iand .i64 (IntKind.i64.wrap (ocs 32 (ocs 16 (ocs 8 (oc3 (oc2 (oc1 n))))))) 127
theorem chk245:chkFn Tryz.f245=true:=qah
theorem ones245(n:Int):PC Pr G 245 [.int .u64 n] (iD (ocI n)):=by
 refine zai pok Tryz.func245 chk245 ?_
 conv=>whnf
 repeat' first|((first|refine And.intro qbi ?_|fail);conv=>whnf)|fail
 exact fin rfl
theorem chk187:chkFn Tryz.f187=true:=qah
theorem zow(n:Int):PC Pr G 187 [.int .u64 n] (iD (ocI n)):=by
 refine zai pok Tryz.func187 chk187 ?_
 conv=>whnf
 repeat' first|(refine zak (ones245 n) ?_;conv=>whnf)
 exact fin rfl
theorem oc_all:((List.range 4096).all fun n=>decide (ocI n=pop 12 n))=true:=qah
theorem zvg{n:Nat}(h:n<4096):ocI n=pop 12 n:=by
 have:=List.all_eq_true.1 oc_all n (List.mem_range.2 h)
 exact of_decide_eq_true this
theorem wrapu{n:Nat}(h:n<2^63):IntKind.u64.wrap (n:Int)=n:=by
 have:IntKind.u64.wrap (n:Int)=(n:Int)%18446744073709551616:=qd4
 rw[this];omega
theorem chk143:chkFn Tryz.f143=true:=qah
def antiI(q r:Ps):Bool:=(iadd .i64 (ocI (IntKind.u64.wrap (iand .i64 q.x r.z))) (ocI (IntKind.u64.wrap (iand .i64 q.z r.x)))).tmod 2==1
theorem anti143(q r:Ps):PC Pr G 143 [q.d,r.d] (.bool (antiI q r)):=by
 have h1:=zow (G:=G) (IntKind.u64.wrap (iand .i64 q.x r.z))
 have h2:=zow (G:=G) (IntKind.u64.wrap (iand .i64 q.z r.x))
 unfold antiI
 generalize ocI (IntKind.u64.wrap (iand .i64 q.x r.z))=a at h1⊢
 generalize ocI (IntKind.u64.wrap (iand .i64 q.z r.x))=b at h2⊢
 refine zai pok Tryz.func143 chk143 ?_
 conv=>whnf
 repeat' first|((first|refine LookP.mk _ rfl ?_|refine And.intro qbi ?_|refine zam h1 ?_|refine zam h2 ?_|refine HpP.force ?_);conv=>whnf)|(intro t ht;cases t<;>conv=>whnf)
 all_goals rw[ht];exact fin rfl
def comV(q r:Ps):Bool:=!cm (nf q).2 (nf r).2
theorem anti_com{w:Nat}{q r:Ps}(hw:w<=12)(hq:Vl w q)(hr:Vl w r):antiI q r = !comV q r:=by
 obtain⟨X,Z,P,rfl,h1,h2,h3⟩:=hq
 obtain⟨X',Z',P',rfl,h4,h5,h6⟩:=hr
 have hp:(2:Nat)^w<=2^12:=Nat.pow_le_pow_right qag hw
 unfold antiI comV cm
 rw[zcq,zcq,zp9 qad qad,zp9 qad qad]
 have a1:X &&& Z'<4096:=Nat.lt_of_le_of_lt Nat.and_le_left qad
 have a2:Z &&& X'<4096:=Nat.lt_of_le_of_lt Nat.and_le_left qad
 show((iadd .i64 (ocI (IntKind.u64.wrap (iand .i64 (X:Int) (Z':Int)))) (ocI (IntKind.u64.wrap (iand .i64 (Z:Int) (X':Int))))).tmod 2==1)=_
 rw[zis qad qad,zis qad qad,wrapu qad,wrapu qad,zvg a1,zvg a2]
 have pl:∀(k n:Nat),pop k n<=k:=by
  intro k n
  induction k with
  | zero=>exact Nat.le_refl _
  | succ k ih=>have:(n.testBit k).toNat<=1:=Bool.toNat_le _;simp only[pop];omega
 have p1:=pl 12 (X &&& Z')
 have p2:=pl 12 (Z &&& X')
 rw[zah qad,Nat.and_comm Z' X,Int.tmod_eq_emod_of_nonneg qad]
 revert p1 p2
 generalize pop 12 (X &&& Z')=a
 generalize pop 12 (Z &&& X')=b
 intro p1 p2
 have e1:a%2=0\/a%2=1:=qad
 have e2:b%2=0\/b%2=1:=qad
 have e3:((((a+b:Nat):Int)%2==1)=decide ((a+b)%2=1)):=by
  rw[Bool.eq_iff_iff];simp;omega
 rw[e3]
 rcases e1 with e1|e1<;>rcases e2 with e2|e2<;>simp[e1,e2,Nat.add_mod]
theorem chk68:chkFn Tryz.f68=true:=qah
theorem commute68(q r:Ps)(h0:bothI q r=0):PC Pr G 68 [q.d,r.d] (.tup [.bool (!antiI q r),iD 0]):=by
 have hb:=both141 (G:=G) q r
 rw[h0]at hb
 have ha:=anti143 (G:=G) q r
 refine zai pok Tryz.func68 chk68 ?_
 conv=>whnf
 repeat' first|((first|refine LookP.mk _ rfl ?_|refine zak hb ?_);conv=>whnf)|(refine zhw ha ?_)|(intro t ht;cases t<;>conv=>whnf)
 ·rw[ht];exact fin rfl
 ·rw[ht];exact fin rfl
 ·exact qcx
theorem znp{w:Nat}{q:Ps}(hw:1<=w/\w<=12)(h:Vl w q):pckI q=0:=by
 obtain⟨X,Z,P,rfl,h1,h2,h3⟩:=h
 unfold pckI mk
 dsimp only
 rw[zcg qad,if_neg qad,if_neg qad,if_neg qad]
theorem both_vl{w:Nat}{q r:Ps}(hw:1<=w/\w<=12)(h:Vl w q)(h':Vl w r):bothI q r=0:=by
 unfold bothI
 rw[znp hw h,znp hw h',if_neg qag,if_neg qag,vl_w h,vl_w h',if_neg qc3]
theorem zxz{w:Nat}{q r:Ps}(hw:1<=w/\w<=12)(hq:Vl w q)(hr:Vl w r):PC Pr G 68 [q.d,r.d] (.tup [.bool (comV q r),iD 0]):=by
 have:=commute68 (G:=G) q r (both_vl hw hq hr)
 rw[anti_com hw.2 hq hr,Bool.not_not]at this
 exact this
theorem com_mul{w:Nat}{q r:Ps}(hw:w<=12)(hq:Vl w q)(hr:Vl w r):decide (mulS q r=mulS r q)=comV q r:=by
 rw[Bool.eq_iff_iff,decide_eq_true_eq,zpo hw hq hr,cm_ecom]
 unfold comV
 cases cm (nf q).2 (nf r).2<;>simp
theorem ze5{w:Nat}(hw:1<=w/\w<=12)(q:Ps)(l:List Ps)(t:Bool)(hl:l.length<=1000)(hq:Vl w q)(hv:∀ r,r∈l->Vl w r):PC Pr G 183 [rowsD (q::l) t] (l.foldl mulS q).d:=by
 have key:∀(l:List Ps) (q:Ps),Vl w q->(∀ r,r∈l->Vl w r)->l.foldl timS q=l.foldl mulS q/\Vl w (l.foldl mulS q):=by
  intro l
  induction l with
  | nil=>exact fun q hq _=>⟨rfl,hq⟩
  | cons r l ih =>
   intro q hq hv
   have hr:=hv r qc3
   simp only[List.foldl_cons,zsi hw.2 hq hr]
   exact ih _ (zes hw.2 hq hr) fun s hs=>hv s (List.mem_cons_of_mem _ hs)
 rw[<- (key l q hq hv).1]
 refine times183 q l t hl fun i h=>both_vl hw ?_ (hv _ (List.getElem_mem h))
 have hv':∀ r,r∈l.take i->Vl w r:=fun r hr=>hv r (List.mem_of_mem_take hr)
 rw[(key (l.take i) q hq hv').1]
 exact(key (l.take i) q hq hv').2
end Go.Tz
namespace Go.Tz
open Go Go.AL Go.Proofs
variable{G:Nat->Option (List D)}
theorem map_app3(a b c:List D):(a++b++c).map AV.d=a.map AV.d++b.map AV.d++c.map AV.d:=by rw[List.map_append,List.map_append]
theorem zbk{f:FuncId}{x y z:List D}{b:Bool}{args:List AV}{H:AHeap}{nx:Nat}{k:AV->AHeap->Nat->Prop}(h:PC Pr G f (x++y++z) (.bool b))(e:args=y.map .d)(hk:∀ t,b=t->k (.d (.bool t)) H nx):CallVC Pr G f (x.map .d++args++z.map .d) H nx k:=by
 subst e;rw[<- map_app3];exact zhw h hk
def idxI{α:Type}(p:α->Bool)(l:List α):Int:=match l.findIdx? p with
 | some i=>i
 | none=>-1
theorem zfc{α:Type}{p:α->Bool}{l:List α}{i:Nat}(h:i<l.length)(h1:p l[i]=true)(h2:∀ q,q∈l.take i->p q=false):idxI p l=i:=by
 have:l.findIdx? p=some i:=by
  rw[List.findIdx?_eq_some_iff_getElem]
  refine⟨h,h1,fun j hj=>?_⟩
  have:=h2 l[j] (List.mem_take_iff_getElem.2 ⟨j,by omega,rfl⟩)
  simpa using this
 unfold idxI;rw[this]
theorem zfd{α:Type}{p:α->Bool}{l:List α}(h:∀ q,q∈l->p q=false):idxI p l = -1:=by
 have:l.findIdx? p=none:=by
  rw[List.findIdx?_eq_none_iff];exact h
 unfold idxI;rw[this]
theorem zmd{α:Type}{p:α->Bool}{l:List α}:decide (idxI p l>=0)=l.any p:=by
 unfold idxI
 cases h:l.findIdx? p with
 | none =>
  have:=List.findIdx?_eq_none_iff.1 h
  have e:l.any p=false:=List.any_eq_false.2 fun q hq=>by simp[this q hq]
  rw[e];rfl
 | some i =>
  obtain⟨h1,h2,_⟩:=List.findIdx?_eq_some_iff_getElem.1 h
  have e:l.any p=true:=List.any_eq_true.2 ⟨l[i],List.getElem_mem h1,h2⟩
  rw[e];simp
theorem zic{α:Type}{p:α->Bool}{l:List α}{i:Nat}(h:i<l.length)(h1:p l[i]=false)(h2:∀ q,q∈l.take i->p q=false):∀ q,q∈l.take (i+1)->p q=false:=by
 intro q hq
 rw[zbe h]at hq
 rcases List.mem_append.1 hq with h|h
 ·exact h2 q h
 ·rw[List.mem_singleton.1 h];exact h1
theorem chk180:chkFn Tryz.f180=true:=qah
theorem idx180(l:List Ps)(t:Bool)(f:FuncId)(first cap:List D)(p:Ps->Bool)(hn:l.length<=1000)(hf:∀ q,q∈l->PC Pr G f (first++[q.d]++cap) (.bool (p q))):PC Pr G 180 [rowsD l t,.fn f first cap] (iD (idxI p l)):=by
 refine zai pok Tryz.func180 chk180 ?_
 conv=>whnf
 skip
 refine zaq pok (fun i=>⟨[(0,.d (rowsD l t)),(1,.d (.fn f first cap)),(7,.d (iD (l.map Ps.l).length)),(8,.d (iD i))],[],0⟩) (l.length) (fun i=>∀ q,q∈l.take i->p q=false) qc3 ?_ qah ?_ ?_
 ·exact qf2
 ·intro i A_i h_i I_i N_i
  have e_i:iadd .i64 (i:Int) 1=((i+1:Nat):Int):=zah qbl
  have hq:=hf l[i] (List.getElem_mem h_i)
  conv=>whnf
  repeat' first|((first|refine LookP.mk _ qb5 ?_|refine And.intro qbi ?_|rw[za2]|refine zbk hq rfl ?_);conv=>whnf)|(intro t ht;cases t<;>conv=>whnf)
  ·exact qbw
  ·exact qgu
  ·exact qhs
 ·exact qf7
theorem chk196:chkFn Tryz.f196=true:=qah
theorem has196(l:List Ps)(t:Bool)(f:FuncId)(first cap:List D)(p:Ps->Bool)(hn:l.length<=1000)(hf:∀ q,q∈l->PC Pr G f (first++[q.d]++cap) (.bool (p q))):PC Pr G 196 [rowsD l t,.fn f first cap] (.bool (l.any p)):=by
 have hi:=idx180 l t f first cap p hn hf
 rw[<- zmd]
 generalize idxI p l=i at hi⊢
 refine zai pok Tryz.func196 chk196 ?_
 conv=>whnf
 repeat' first|(refine zak hi ?_;conv=>whnf)|(intro t ht;cases t<;>conv=>whnf)
 all_goals rw[ht];exact fin rfl
theorem chk197:chkFn Tryz.f197=true:=qah
theorem ev197(q:Ps)(f:FuncId)(first cap:List D)(b:Bool)(hf:PC Pr G f (first++[q.d]++cap) (.bool b)):PC Pr G 197 [q.d,.rop [.fn f first cap] 0] (.bool (!b)):=by
 refine zai pok Tryz.func197 chk197 ?_
 conv=>whnf
 repeat' first|((first|refine LookP.mk _ rfl ?_|rw[za2]|refine zbk hf rfl ?_);conv=>whnf)|(intro t ht;cases t<;>conv=>whnf)
 all_goals rw[ht];exact fin rfl
theorem chk112:chkFn Tryz.f112=true:=qah
theorem zwa(l:List Ps)(t:Bool)(f:FuncId)(first cap:List D)(p:Ps->Bool)(hn:l.length<=1000)(hf:∀ q,q∈l->PC Pr G f (first++[q.d]++cap) (.bool (p q))):PC Pr G 112 [rowsD l t,.fn f first cap] (.bool (l.all p)):=by
 have hi:=has196 (G:=G) l t 197 [] [.rop [.fn f first cap] 0] (fun q=>!p q) hn fun q hq=>ev197 q f first cap (p q) (hf q hq)
 refine zai pok Tryz.func112 chk112 ?_
 conv=>whnf
 have e:l.all p = !l.any (fun q=>!p q):=by
  rw[List.all_eq_not_any_not]
 rw[e]
 repeat' first|(refine zb4 hi rfl ?_)|(intro t ht;cases t<;>conv=>whnf)
 all_goals rw[ht];exact fin rfl
end Go.Tz
namespace Go.Tz
open Go Go.AL Go.Proofs
variable{G:Nat->Option (List D)}
abbrev Rw:=Int×Int
def Rw.l(r:Rw):List D:=[iD r.1,iD r.2]
def rowI(l:List Ps):List Rw:=l.mapIdx fun n q=>(ior .i64 q.x (ishl .i64 q.z 12),ishl .i64 1 n)
theorem zkm(l:List Ps):(rowI l).length=l.length:=by simp[rowI]
theorem rowI_snoc{l:List Ps}{i:Nat}(h:i<l.length):(rowI l).take (i+1)=(rowI l).take i++[(ior .i64 l[i].x (ishl .i64 l[i].z 12),ishl .i64 1 i)]:=by
 have h':i<(rowI l).length:=by rw[zkm];exact h
 rw[zbe h']
 simp[rowI]
theorem zg9{H:AHeap}{nm sz n:Nat}{l:List (List D)}(hg:H.get nm=some (dblk sz l))(hn:n=l.length):AsD H (.sl nm sz 0 n n false) (.sl l false):=by
 subst hn
 have:=zea (lo:=0) (len:=l.length) (room:=l.length) (t:=false) hg qc3
 simpa using this
theorem zax{sz:Nat}{m:List (List D)}{x:List D}{ys:List (List AV)}(h:ys=[x.map AV.d]):Blk.arr sz (m.map (fun el=>el.map AV.d)++ys)=dblk sz (m++[x]):=by
 subst h;unfold dblk;rw[List.map_append];rfl
theorem chk200:chkFn Tryz.f200=true:=qah
theorem rows200(l:List Ps)(t:Bool)(hn:l.length<=1000):PC Pr G 200 [rowsD l t] (.sl ((rowI l).map Rw.l) false):=by
 refine zck (za3 Tryz.func200 chk200) (za4 pok Tryz.func200 chk200 ?_)
 conv=>whnf
 skip
 refine zaq pok (fun i=>⟨[(3,.sl 0 2 0 i i false),(6,.d (rowsD l t)),(7,.d (iD (l.map Ps.l).length)),(8,.d (iD i))],[(0,some (dblk 2 (((rowI l).take i).map Rw.l)))],1⟩) (l.length) (fun _=>True) (trivial) ?_ qah ?_ ?_
 ·refine Sub.trans (zhp (t:=3) (S:=2) (Nat.zero_le _) rfl) ?_
  refine zac qac ?_ ?_ trivial
  ·exact qae
  ·exact qab
 ·intro i A_i h_i I_i N_i
  have e_i:iadd .i64 (i:Int) 1=((i+1:Nat):Int):=zah qbl
  have hsn:=rowI_snoc h_i
  have hm:(((rowI l).take i).map Rw.l).length=i:=by rw[List.length_map,List.length_take,zkm];omega
  have hs2:(((rowI l).take (i+1)).map Rw.l)=((rowI l).take i).map Rw.l++[[iD (ior .i64 l[i].x (ishl .i64 l[i].z 12)),iD (ishl .i64 1 i)]]:=by rw[hsn,List.map_append];rfl
  generalize ((rowI l).take i).map Rw.l=m at hm hs2
  conv=>whnf
  repeat' first|((first|refine LookP.mk _ qb5 ?_|refine ShlP.mk _ qaa ?_|(refine And.intro (by first|exact Nat.le_refl _|exact⟨by rw[List.length_map];exact hm,by decide,by show(2*(i+1)+192)*16<=281474976710656;omega⟩|assumption|exact⟨by kernel_rfl,rfl⟩|decide|omega) ?_)|rw[nbeq]|refine HpP.force ?_);conv=>whnf)|(intro t ht;cases t<;>conv=>whnf)
  ·exact qbw
  ·refine N_i _ ?_ ?_
   ·exact qbj
   ·first|refine zav [(0,3)] ?_ ?_ ?_ trivial|refine zap [(0,3)] rfl rfl ?_ ?_ ?_ trivial
    ·exact qai
    ·repeat' first|exact trivial|refine⟨⟨ltB rfl,_,rfl,by first|rfl|assumption|exact zag rfl (by first|rfl|assumption|exact zag rfl qfw)|exact zag rfl qfw,by first|exact zae rfl|exact zaa _ _ _|exact zab rfl⟩,?_⟩
    ·exact qaf
 ·intro A_last I_last
  conv=>whnf
  repeat' first|((first|refine And.intro qbi ?_|fail);conv=>whnf)|(intro t ht;cases t<;>conv=>whnf)
  ·refine fin (zg9 ?_ (by simp[zkm]))
   rw[List.take_of_length_le (by rw[zkm];exact Nat.le_refl _)];rfl
  ·exact qea
end Go.Tz
namespace Go.Tz
open Go Go.AL Go.Proofs
variable{G:Nat->Option (List D)}
theorem low_and{n t m:Nat}(h:n=2^t*(2*m+1))(ht:t<24)(hn:n<2^24):n &&& (2^64-n)=2^t:=by
 have hpos:0<n:=qc6
 have hp:0<2^t:=Nat.two_pow_pos t
 have h1:n-1=2^t*(2*m)+(2^t-1):=by rw[h,Nat.mul_add,Nat.mul_one];omega
 have h2:n=2^t*(2*m+1)+0:=by rw[h];rfl
 refine Nat.eq_of_testBit_eq fun j=>?_
 have e:2^64-n=2^64-((n-1)+1):=qad
 rw[Nat.testBit_and,e,Nat.testBit_two_pow_sub_succ qad,Nat.testBit_two_pow]
 have b1:=Nat.testBit_two_pow_mul_add (2*m+1) (show 0<2^t from hp) j
 have b2:=Nat.testBit_two_pow_mul_add (2*m) (show 2^t-1<2^t by omega) j
 rw[<- h2]at b1
 rw[<- h1]at b2
 rw[b1,b2]
 by_cases c:j<t
 ·rw[if_pos c,Nat.zero_testBit]
  have:¬ t=j:=qad
  simp[this]
 ·rw[if_neg c,if_neg c]
  by_cases d:j=t
  ·subst d
   rw[Nat.sub_self]
   have e1:(2*m+1).testBit 0=true:=qc3
   have e2:(2*m).testBit 0=false:=qc3
   have:decide (j<64)=true:=qbo
   rw[e1,e2,this];simp
  ·have e1:(2*m+1).testBit (j-t)=(2*m).testBit (j-t):=by
    obtain⟨k,hk⟩:∃ k,j-t=k+1:=⟨j-t-1,by omega⟩
    rw[hk,Nat.testBit_succ,Nat.testBit_succ]
    congr 1;omega
   have:¬ t=j:=qad
   rw[e1]
   cases (2*m).testBit (j-t)<;>simp[this]
theorem wrapU{n:Int}:IntKind.u64.wrap n=n%18446744073709551616:=qd4
theorem low_int{n t m:Nat}(h:n=2^t*(2*m+1))(ht:t<24)(hn:n<2^24):iand .u64 (n:Int) (ineg .u64 (n:Int))=((2^t:Nat):Int):=by
 have hpos:0<n:=qc6
 have e:ineg .u64 (n:Int)=((2^64-n:Nat):Int):=by
  unfold ineg;rw[wrapU];omega
 rw[e]
 unfold iand
 show IntKind.u64.wrap ((BitVec.ofInt 64 n &&& BitVec.ofInt 64 ((2^64-n:Nat):Int)).toNat:Int)=_
 have e1:(BitVec.ofInt 64 (n:Int)).toNat=n:=by rw[BitVec.toNat_ofInt];omega
 have e2:(BitVec.ofInt 64 ((2^64-n:Nat):Int)).toNat=2^64-n:=by rw[BitVec.toNat_ofInt];omega
 rw[BitVec.toNat_and,e1,e2,low_and h ht hn,wrapU]
 have hlt:2^t<2^24:=Nat.pow_lt_pow_right qag ht
 revert hlt
 generalize 2^t=p
 intro hlt
 omega
theorem tz_tab:((List.range 24).all fun t=>match ishr .u64 (imul .u64 ((2^t:Nat):Int) 285870213051353865) 58 with
  | .ofNat i=>decide (i<64)&&(match tab64[i]? with
   | some (.int .u8 k)=>decide (k=(t:Int))
   | _=>false)
  | _=>false)=true:=by kernel_rfl
theorem tz_tab'{t:Nat}(ht:t<24):∃ i:Nat,ishr .u64 (imul .u64 ((2^t:Nat):Int) 285870213051353865) 58=i/\i<64/\tab64[i]?=some (.int .u8 t):=by
 have:=List.all_eq_true.1 tz_tab t (List.mem_range.2 ht)
 split at this
 ·rename_i i hi
  rw[Bool.and_eq_true]at this
  obtain⟨h1,h2⟩:=this
  refine⟨i,hi,by simpa using h1,?_⟩
  split at h2
  ·rename_i k hk
   rw[hk]
   simp at h2;rw[h2]
  ·cases h2
 ·cases this
theorem chk271:chkFn Tryz.f271=true:=qah
theorem zyt{v:Int}{i:Nat}{d:Int}(hpos:v≠0)(h1:ishr .u64 (imul .u64 (iand .u64 v (ineg .u64 v)) 285870213051353865) 58=i)(h2:i<64)(h3:tab64[i]?=some (.int .u8 d)):PC Pr GG 271 [.int .u64 v] (iD (IntKind.i64.wrap d)):=by
 refine zai pok Tryz.func271 chk271 ?_
 conv=>whnf
 have key:∀ a b,a=1->b=1->List.take a (List.drop (0+(i:Int).toNat*b) tab64)=[.int .u8 d]:=by
  rintro a b rfl rfl
  rw[Int.toNat_natCast,Nat.zero_add,Nat.mul_one]
  have hi:i<tab64.length:=(List.getElem?_eq_some_iff.1 h3).1
  rw[List.drop_eq_getElem_cons hi]
  have:=(List.getElem?_eq_some_iff.1 h3).2
  rw[this];rfl
 intro t ht
 cases t<;>conv=>whnf
 ·refine And.intro qag ?_
  conv=>whnf
  rw[h1]
  repeat' first|((first|refine And.intro qbi ?_|rw[key _ _ rfl rfl]);conv=>whnf)
  exact fin rfl
 ·exact qbw
theorem trail271{n t m:Nat}(h:n=2^t*(2*m+1))(ht:t<24)(hn:n<2^24):PC Pr GG 271 [.int .u64 n] (iD t):=by
 have hl:=low_int h ht hn
 obtain⟨i,h1,h2,h3⟩:=tz_tab' ht
 rw[<- hl]at h1
 have hpos:(n:Int)≠0:=by
  have:0<n:=qc6
  omega
 have hw:IntKind.i64.wrap (t:Int)=t:=zcd qad qad
 have:=zyt hpos h1 h2 h3
 rwa [hw]at this
theorem zys:PC Pr GG 271 [.int .u64 0] (iD 64):=by
 refine zai pok Tryz.func271 chk271 ?_
 conv=>whnf
 repeat' first|((first|refine And.intro qbi ?_|fail);conv=>whnf)|(intro t ht;cases t<;>conv=>whnf)
 ·exact qcx
 ·exact fin rfl
theorem chk251:chkFn Tryz.f251=true:=qah
theorem trail251{n t m:Nat}(h:n=2^t*(2*m+1))(ht:t<24)(hn:n<2^24):PC Pr GG 251 [.int .u64 n] (iD t):=by
 have hc:=trail271 h ht hn
 refine zai pok Tryz.func251 chk251 ?_
 conv=>whnf
 repeat' first|(refine zak hc ?_;conv=>whnf)
 exact fin rfl
theorem zyu:PC Pr GG 251 [.int .u64 0] (iD 64):=by
 have hc:=zys
 refine zai pok Tryz.func251 chk251 ?_
 conv=>whnf
 repeat' first|(refine zak hc ?_;conv=>whnf)
 exact fin rfl
end Go.Tz
namespace Go.Tz
open Go Go.AL Go.Proofs
variable{G:Nat->Option (List D)}
abbrev Rn:=Nat×Nat
def Rn.l(r:Rn):List D:=[iD r.1,iD r.2]
abbrev rnD(l:List Rn)(t:Bool):D:=.sl (l.map Rn.l) t
theorem rn_len(l:List Rn):∀ el,el∈l.map Rn.l->el.length=2:=by
 intro el h
 obtain⟨q,_,rfl⟩:=List.mem_map.1 h
 rfl
theorem rn_sc(l:List Rn):(((l.map Rn.l).map (·.map AV.d)).all fun el=>el.all AV.scalar)=true:=by
 simp[Rn.l,AV.scalar,D.scalar]
theorem zks{α:Type}{N:Nat}{z:α}{ys:List α}(h:ys.length=N):over (List.replicate N z) 0 (ys.take N)=ys:=by
 have e:ys.take N=ys:=List.take_of_length_le qad
 unfold over
 rw[e]
 simp[h]
def rwB(N:Nat)(f:Nat->List D):Blk:=dblk 2 ((List.range N).map f)
theorem rwB_list(l:List Rn):Blk.arr 2 ((l.map Rn.l).map fun x=>x.map AV.d)=rwB l.length fun j=>Rn.l (l.getD j (0,0)):=by
 unfold rwB dblk
 congr 2
 apply List.ext_getElem
 ·exact qc3
 ·exact qhi
theorem zeu{N k:Nat}{f:Nat->List D}(h:k<N):(((List.range N).map f).map fun el=>el.map AV.d)[0+(k:Int).toNat]?=some ((f k).map AV.d):=qec
theorem zb1{N k:Nat}{f:Nat->List D}{x:List D}(h:k<N)(e:f k=x):(((List.range N).map f).map fun el=>el.map AV.d)[0+(k:Int).toNat]?=some (x.map AV.d):=by rw[zeu h,e]
theorem rwB_congr{N:Nat}{f g:Nat->List D}(h:∀ j,f j=g j):Blk.arr 2 (((List.range N).map f).map fun el=>el.map AV.d)=rwB N g:=by rw[funext h];rfl
theorem zf3{N k:Nat}{f:Nat->List D}{x:List D}(h:k<N):(((List.range N).map f).map fun el=>el.map AV.d).set (0+(k:Int).toNat) (x.map AV.d)=((List.range N).map fun j=>if j=k then x else f j).map fun el=>el.map AV.d:=by
 rw[Int.toNat_natCast,Nat.zero_add]
 apply List.ext_getElem
 ·exact qc3
 ·intro i h1 h2
  rw[List.getElem_set]
  by_cases e:k=i
  ·subst e;simp
  ·rw[if_neg e];simp[Ne.symm e]
def clrW(rf:Nat->Rn)(n b i:Nat):Nat->Rn:=fun k=>if k<i/\k≠n/\(rf k).1.testBit b=true then((rf k).1^^^(rf n).1,(rf k).2^^^(rf n).2) else rf k
theorem clrW_0(rf:Nat->Rn)(n b:Nat):clrW rf n b 0=rf:=by funext k;simp[clrW]
theorem clrW_n(rf:Nat->Rn)(n b i:Nat):clrW rf n b i n=rf n:=by simp[clrW]
theorem clrW_ge(rf:Nat->Rn)(n b i:Nat):clrW rf n b i i=rf i:=by simp[clrW]
theorem clrW_same{rf:Nat->Rn}{n b i:Nat}(h:¬(i≠n/\(rf i).1.testBit b=true)):clrW rf n b (i+1)=clrW rf n b i:=by
 funext j
 unfold clrW
 by_cases e:j=i
 ·subst e
  rw[if_neg (fun q=>h q.2),if_neg (fun q=>h q.2)]
 ·have:(j<i+1) ↔ (j<i):=by omega
  simp only[this]
theorem clrW_set{rf:Nat->Rn}{n b i:Nat}(hin:i≠n)(hb:(rf i).1.testBit b=true):clrW rf n b (i+1)=fun j=>if j=i then((rf i).1^^^(rf n).1,(rf i).2^^^(rf n).2) else clrW rf n b i j:=by
 funext j
 unfold clrW
 by_cases e:j=i
 ·subst e
  rw[if_pos ⟨Nat.lt_succ_self _,hin,hb⟩,if_pos rfl]
 ·have:(j<i+1) ↔ (j<i):=by omega
  simp only[this,if_neg e]
def lowN(n:Nat):Nat:=((List.range 24).find? fun j=>n.testBit j).getD 0
theorem zg0{n:Nat}(h0:n≠0)(hn:n<2^24):lowN n<24/\n.testBit (lowN n)=true /\ ∃ m,n=2^lowN n*(2*m+1):=by
 obtain⟨c,hc⟩:=Nat.exists_testBit_of_ne_zero h0
 have hc24:c<24:=by
  rcases Nat.lt_or_ge c 24 with q|q
  ·exact q
  ·rw[Nat.testBit_lt_two_pow (Nat.lt_of_lt_of_le hn (Nat.pow_le_pow_right qag q))]at hc;cases hc
 cases hf:(List.range 24).find? fun j=>n.testBit j with
 | none =>
  have:=List.find?_eq_none.1 hf c (List.mem_range.2 hc24)
  rw[hc]at this;simp at this
 | some t =>
  have ht:lowN n=t:=by unfold lowN;rw[hf];rfl
  rw[ht]
  rw[List.find?_range_eq_some]at hf
  obtain⟨h1,h2,h3⟩:=hf
  refine⟨List.mem_range.1 h2,h1,n / 2^t / 2,?_⟩
  have hz:n%2^t=0:=by
   refine Nat.eq_of_testBit_eq fun j=>?_
   rw[Nat.testBit_mod_two_pow,Nat.zero_testBit]
   by_cases e:j<t
   ·have:=h3 j e;simp at this;simp[this]
   ·simp[e]
  have hodd:n / 2^t%2=1:=by
   rw[Nat.testBit_eq_decide_div_mod_eq]at h1;simpa using h1
  have e1:2*(n / 2^t / 2)+1=n / 2^t:=qad
  rw[e1,Nat.mul_div_cancel' (Nat.dvd_of_mod_eq_zero hz)]
def redW(l:List Rn):Nat->Nat->Rn
 | 0=>fun j=>l.getD j (0,0)
 | n+1=>if(redW l n n).1≠0 then clrW (redW l n) n (lowN (redW l n n).1) l.length else redW l n
theorem zht{l:List Rn}(h:∀ r,r∈l->r.1<2^24/\r.2<2^24):∀ n j,(redW l n j).1<2^24/\(redW l n j).2<2^24
 | 0,j=>by
  show(l.getD j (0,0)).1<2^24/\(l.getD j (0,0)).2<2^24
  rw[List.getD_eq_getElem?_getD]
  cases hj:l[j]? with
  | none=>exact⟨by decide,by decide⟩
  | some r=>exact h r (List.mem_of_getElem? hj)
 | n+1,j=>by
  have ih:=zht h n
  simp only[redW]
  split
  ·unfold clrW
   split
   ·exact⟨Nat.xor_lt_two_pow (ih j).1 (ih n).1,Nat.xor_lt_two_pow (ih j).2 (ih n).2⟩
   ·exact ih j
  ·exact ih j
theorem low_mul{n m:Nat}(h0:n≠0)(hn:n<2^24)(h:n=2^lowN n*(2*m+1)):PC Pr GG 251 [.int .u64 (IntKind.u64.wrap (n:Int))] (iD (lowN n)):=by
 have hl:=(zg0 h0 hn).1
 revert h hl
 generalize lowN n=t
 intro h hl
 rw[wrapu qad]
 exact trail251 h hl hn
def tzN(n:Nat):Nat:=if n=0 then 64 else lowN n
theorem tz_c{n:Nat}(hn:n<2^24):PC Pr GG 251 [.int .u64 (IntKind.u64.wrap (n:Int))] (iD (tzN n)):=by
 unfold tzN
 split
 ·rename_i h;subst h;exact zyu
 ·rename_i h
  obtain⟨_,_,m,hm⟩:=zg0 h hn
  exact low_mul h hn hm
def lfW(rf:Nat->Rn)(i:Nat):List Rn:=((List.range i).map rf).filter fun r=>decide (r.1≠0)
def gnW(rf:Nat->Rn)(i:Nat):List Rn:=((List.range i).map rf).filter fun r=>decide (r.1=0)
theorem lf_snoc(rf:Nat->Rn)(i:Nat):lfW rf (i+1)=lfW rf i++(if(rf i).1≠0 then [rf i] else []):=by
 simp only[lfW,List.range_succ,List.map_append,List.filter_append,List.map_cons,List.map_nil,List.filter_cons,List.filter_nil,decide_eq_true_eq]
theorem gn_snoc(rf:Nat->Rn)(i:Nat):gnW rf (i+1)=gnW rf i++(if(rf i).1=0 then [rf i] else []):=by
 simp only[gnW,List.range_succ,List.map_append,List.filter_append,List.map_cons,List.map_nil,List.filter_cons,List.filter_nil,decide_eq_true_eq]
theorem zwo{H:AHeap}{v1 v2:AV}{d1 d2:D}(h1:AsD H v1 d1)(h2:AsD H v2 d2):AsD H (.tup [v1,v2]) (.tup [d1,d2]):=by
 refine .tup _ _ rfl fun j v d hv hd=>?_
 match j,hv,hd with
 | 0,hv,hd=>simp at hv hd;subst hv hd;exact h1
 | 1,hv,hd=>simp at hv hd;subst hv hd;exact h2
 | j+2,hv,_=>simp at hv
theorem chk250:chkFn Tryz.f250=true:=qah
theorem chk199:chkFn Tryz.f199=true:=qah
theorem red199(l:List Rn)(t:Bool)(hn:l.length<=1000)(hb:∀ r,r∈l->r.1<2^24/\r.2<2^24):PC Pr GG 199 [rnD l t] (.tup [rnD (lfW (redW l l.length) l.length) false,rnD (gnW (redW l l.length) l.length) false]):=by
 refine zck (za3 Tryz.func199 chk199) (za4 pok Tryz.func199 chk199 ?_)
 conv=>whnf
 repeat' first|((first|refine LookP.mk _ rfl ?_|refine ShlP.mk _ qa8 ?_|(refine And.intro (by first|exact⟨Int.natCast_nonneg _,rfl,by show 16*(((l.map Rn.l).length:Nat):Int).toNat<=281474976710656;rw[Int.toNat_natCast,List.length_map];omega,by decide,by decide⟩|exact rn_len _|exact qb4|assumption|exact⟨by kernel_rfl,rfl⟩|decide|omega) ?_)|rw[rn_sc]|refine HpP.force ?_);conv=>whnf)
 have eN:(((l.map Rn.l).length:Nat):Int).toNat=l.length:=qc3
 refine zaq pok (fun n=>⟨[(2,.d (.sl [] true)),(3,.d (.sl [] true)),(4,.ptr 1 1 0 0),(5,.fn 250 [] [.ptr 1 1 0 0]),(18,.d (iD l.length)),(19,.d (iD n))],[(0,some (rwB l.length fun j=>(redW l n j).l)),(1,some (.arr 1 [[.sl 0 2 0 l.length l.length true]]))],2⟩) (l.length) (fun _=>True) (trivial) ?_ qah ?_ ?_
 ·refine zac qac ?_ ?_ trivial
  ·repeat' first|exact trivial|refine⟨⟨by first|rfl|assumption|(show AV.d (D.int .i64 ((((l.map Rn.l).length:Nat):Int).toNat:Int))=_;rw[eN]),rfl⟩,?_⟩
  ·repeat' first|exact trivial|refine⟨⟨ltB rfl,_,rfl,by first|rfl|assumption|exact congrArg some (rwB_list l)|(show some (Blk.arr 1 [[AV.sl 0 2 0 (((l.map Rn.l).length:Nat):Int).toNat (((l.map Rn.l).length:Nat):Int).toNat true]])=_;rw[eN]),by first|exact zae rfl|exact zaa _ _ _|exact zab rfl|exact zaa _ _ _⟩,?_⟩
 ·intro n A_n h_n I_n N_n
  have e_n:iadd .i64 (n:Int) 1=((n+1:Nat):Int):=zah qbl
  have hlt:=zht hb n n
  have hlt3:=zht hb n
  generalize hg:redW l n=rf at hlt hlt3
  have htz:=tz_c hlt.1
  have hlt2:(rf n).1<2^63:=qad
  generalize hb1:(rf n).1=b1 at hlt htz hlt2
  conv=>whnf
  repeat' first|((first|refine LookP.mk _ (by first|rfl|exact zeu h_n) ?_|refine And.intro qbi ?_|rw[hb1]|refine zak htz ?_);conv=>whnf)|(intro t ht;cases t<;>conv=>whnf)
  ·exact qbw
  ·have h0:b1=0:=by simp at ht;omega
   have hnx:redW l (n+1)=rf:=by simp only[redW,hg,hb1,h0];simp
   refine N_n _ ?_ ?_
   ·exact qbj
   ·refine zac qac ?_ ?_ trivial
    ·exact qav
    ·exact qce
  ·have h0:b1≠0:=by simp at ht;omega
   have hnx:redW l (n+1)=clrW rf n (tzN b1) l.length:=by
    simp only[redW,hg,hb1];rw[if_pos h0];unfold tzN;rw[if_neg h0]
   have ht64:tzN b1<=64:=by
    unfold tzN;split
    ·exact qad
    ·rename_i h;have:=(zg0 h hlt.1).1;omega
   generalize tzN b1=b at hnx ht64
   clear htz
   refine zbb pok Tryz.func250 chk250 ?_
   conv=>whnf
   repeat' first|(refine LookP.mk _ rfl ?_;conv=>whnf)
   refine zaq pok (fun k=>⟨[(0,.d (iD n)),(1,.d (iD b)),(2,.ptr 1 1 0 0),(7,.d (iD l.length)),(8,.d (iD k))],[(0,some (rwB l.length fun j=>(clrW rf n b k j).l)),(1,some (.arr 1 [[.sl 0 2 0 l.length l.length true]]))],2⟩) (l.length) (fun _=>True) (trivial) ?_ qah ?_ ?_
   ·refine zac qac ?_ ?_ trivial
    ·exact qae
    ·repeat' first|exact trivial|refine⟨⟨ltB rfl,_,rfl,by first|rfl|assumption|(rw[clrW_0];rfl),by first|exact zae rfl|exact zaa _ _ _|exact zab rfl|exact zaa _ _ _⟩,?_⟩
   ·intro k A_k h_k I_k N_k
    have e_k:iadd .i64 (k:Int) 1=((k+1:Nat):Int):=zah qbl
    have hn':=clrW_n rf n b k
    have hk':=clrW_ge rf n b k
    have hs:=@clrW_set rf n b k
    have hs2:=@clrW_same rf n b k
    generalize hgk:clrW rf n b k=g at hn' hk' hs
    conv=>whnf
    repeat' first|((first|refine LookP.mk _ (by first|rfl|exact zeu (f:=fun j=>Rn.l (g j)) h_k|exact zeu (f:=fun j=>Rn.l (g j)) h_n) ?_|refine ShlP.mk _ (by first|exact zf3 (x:=[_,_]) h_k|rfl) ?_|refine And.intro qbi ?_|refine HpP.force ?_);conv=>whnf)|(intro t ht;cases t<;>conv=>whnf)
    ·exact qbw
    ·have hkn:k=n:=by simp at ht;omega
     have e:clrW rf n b (k+1)=g:=by rw[<- hgk];exact hs2 fun q=>q.1 hkn
     refine N_k _ ?_ ?_
     ·exact qbj
     ·refine zac qac ?_ ?_ trivial
      ·exact qaj
      ·exact qcf
    ·have hkn:k≠n:=by intro e;subst e;simp at *
     have e:clrW rf n b (k+1)=g:=by
      rw[<- hgk];refine hs2 fun q=>?_
      rw[hk',zem ht64 (by have:=(hlt3 k).1;omega),q.2]at ht
      simp at ht
     refine N_k _ ?_ ?_
     ·exact qbj
     ·refine zac qac ?_ ?_ trivial
      ·exact qaj
      ·exact qcf
    ·have hkn:k≠n:=by intro e;subst e;simp at *
     have hnk:n≠k:=Ne.symm hkn
     have hbk:(rf k).1.testBit b=true:=by
      rw[hk',zem ht64 (by have:=(hlt3 k).1;omega)]at ht
      cases e:(rf k).1.testBit b with
      | true=>rfl
      | false=>rw[e]at ht;simp at ht
     repeat' first|((first|refine LookP.mk _ (by first|rfl|exact zb1 h_k (if_pos rfl)|exact zb1 h_n (if_neg hnk)) ?_|refine ShlP.mk _ (by first|exact zf3 (x:=[_,_]) h_k|rfl) ?_|refine And.intro qbi ?_|refine HpP.force ?_);conv=>whnf)
     have hblk:∀ j,(if j=k then [iD (ixor .i64 (g k).1 (g n).1),iD (ixor .i64 (g k).2 (g n).2)] else if j=k then [iD (ixor .i64 (g k).1 (g n).1),iD (g k).2] else Rn.l (g j))=Rn.l (clrW rf n b (k+1) j):=by
      intro j
      rw[hs hkn hbk]
      dsimp only
      by_cases e:j=k
      ·rw[if_pos e,if_pos e,hk',hn']
       have q1:=hlt3 k
       have q2:=hlt3 n
       rw[zg1 qad qad,zg1 qad qad];rfl
      ·rw[if_neg e,if_neg e,if_neg e]
     refine N_k _ ?_ ?_
     ·exact qbj
     ·refine zac qac ?_ ?_ trivial
      ·exact qaj
      ·repeat' first|exact trivial|refine⟨⟨ltB rfl,_,rfl,by first|rfl|assumption|exact congrArg some (rwB_congr hblk),by first|exact zae rfl|exact zaa _ _ _|exact zab rfl|exact zaa _ _ _⟩,?_⟩
   ·intro A_last I_last
    conv=>whnf
    repeat (refine LookP.mk _ rfl ?_;conv=>whnf)
    intro t ht
    cases t
    rotate_left
    ·exact qbh
    conv=>whnf
    skip
    refine N_n _ ?_ ?_
    ·exact qbj
    ·refine zac qac ?_ ?_ trivial
     ·exact qav
     ·exact qce
 ·intro A_last I_last
  generalize redW l l.length=rf
  conv=>whnf
  repeat (refine LookP.mk _ rfl ?_;conv=>whnf)
  intro t ht
  cases t
  rotate_left
  ·exact qbh
  conv=>whnf
  repeat' first|(refine LookP.mk _ rfl ?_;conv=>whnf)
  refine zaq pok (fun i=>⟨[(2,.sl 1 2 0 (lfW rf i).length (lfW rf i).length false),(3,.sl 2 2 0 (gnW rf i).length (gnW rf i).length false),(40,.sl 0 2 0 l.length l.length true),(41,.d (iD l.length)),(42,.d (iD i))],[(0,some (rwB l.length fun j=>(rf j).l)),(1,some (dblk 2 ((lfW rf i).map Rn.l))),(2,some (dblk 2 ((gnW rf i).map Rn.l)))],3⟩) (l.length) (fun _=>True) (trivial) ?_ qah ?_ ?_
  ·refine Sub.trans ((zhp (t:=2) (S:=2) (Nat.zero_le _) rfl).trans (zhp (t:=3) (S:=2) (Nat.zero_le _) rfl)) ?_
   first|refine zav [(1,2),(2,3)] ?_ ?_ ?_ trivial|refine zap [(1,2),(2,3)] rfl rfl ?_ ?_ ?_ trivial
   ·exact qae
   ·exact qax
   ·exact qaf
  ·intro i A_i h_i I_i N_i
   have e_i:iadd .i64 (i:Int) 1=((i+1:Nat):Int):=zah qbl
   have h1:=lf_snoc rf i
   have h2:=gn_snoc rf i
   have hle1:(lfW rf i).length<=i:=by have:=List.length_filter_le (fun r:Rn=>decide (r.1≠0)) ((List.range i).map rf);simpa[lfW] using this
   have hle2:(gnW rf i).length<=i:=by have:=List.length_filter_le (fun r:Rn=>decide (r.1=0)) ((List.range i).map rf);simpa[gnW] using this
   generalize lfW rf i=L at h1 hle1
   generalize gnW rf i=K at h2 hle2
   conv=>whnf
   repeat (refine LookP.mk _ rfl ?_;conv=>whnf)
   intro t ht
   cases t
   ·exact qbh
   conv=>whnf
   repeat' first|((first|refine LookP.mk _ (by first|rfl|exact zeu (f:=fun j=>Rn.l (rf j)) h_i) ?_|refine ShlP.mk _ qaa ?_|(refine And.intro (by first|exact Nat.le_refl _|exact⟨by simp,by decide,by show(2*(L.length+1)+192)*16<=281474976710656;omega⟩|exact⟨by simp,by decide,by show(2*(K.length+1)+192)*16<=281474976710656;omega⟩|assumption|exact⟨by kernel_rfl,rfl⟩|decide|omega) ?_)|rw[nbeq]|refine HpP.force ?_);conv=>whnf)|(intro t ht;cases t<;>conv=>whnf)
   ·have hz:(rf i).1=0:=by simp at ht;omega
    have e1:lfW rf (i+1)=L:=by rw[h1,if_neg (by simp[hz])];simp
    have e2:gnW rf (i+1)=K++[rf i]:=by rw[h2,if_pos hz]
    refine N_i _ ?_ ?_
    ·exact qbj
    ·first|refine zav [(2,5)] ?_ ?_ ?_ trivial|refine zap [(2,5)] rfl rfl ?_ ?_ ?_ trivial
     ·repeat' first|exact trivial|refine⟨⟨by first|rfl|assumption|exact congrArg (fun n=>AV.d (iD n)) e_i|(rw[e2,List.length_append];rfl)|(rw[e1];rfl),rfl⟩,?_⟩
     ·repeat' first|exact trivial|refine⟨⟨ltB rfl,_,rfl,by first|rfl|assumption|exact zag rfl (by first|rfl|assumption|exact zag rfl (by rw[e1];rfl)|exact zag rfl qdy)|exact zag rfl (by rw[e1];rfl)|exact zag rfl qdy,by first|exact zae rfl|exact zaa _ _ _|exact zab rfl|exact zaa _ _ _⟩,?_⟩
     ·exact qaf
   ·have hz:(rf i).1≠0:=by simp at ht;omega
    have e1:lfW rf (i+1)=L++[rf i]:=by rw[h1,if_pos hz]
    have e2:gnW rf (i+1)=K:=by rw[h2,if_neg hz];simp
    refine N_i _ ?_ ?_
    ·exact qbj
    ·first|refine zav [(1,5)] ?_ ?_ ?_ trivial|refine zap [(1,5)] rfl rfl ?_ ?_ ?_ trivial
     ·repeat' first|exact trivial|refine⟨⟨by first|rfl|assumption|exact congrArg (fun n=>AV.d (iD n)) e_i|(rw[e1,List.length_append];rfl)|(rw[e2];rfl),rfl⟩,?_⟩
     ·repeat' first|exact trivial|refine⟨⟨ltB rfl,_,rfl,by first|rfl|assumption|exact zag rfl (by first|rfl|assumption|exact zag rfl (by rw[e2];rfl)|exact zag rfl qdx)|exact zag rfl (by rw[e2];rfl)|exact zag rfl qdx,by first|exact zae rfl|exact zaa _ _ _|exact zab rfl|exact zaa _ _ _⟩,?_⟩
     ·exact qaf
  ·intro A_last I_last
   conv=>whnf
   repeat (refine LookP.mk _ rfl ?_;conv=>whnf)
   intro t ht
   cases t
   rotate_left
   ·exact qbh
   conv=>whnf
   skip
   exact fin (zwo (zg9 rfl qc3) (zg9 rfl qc3))
end Go.Tz
namespace Go.Tz
open Go Go.AL Go.Proofs Go.Ma
variable{G:Nat->Option (List D)}
theorem chk269:chkFn Tryz.f269=true:=qah
theorem ev269(q:Ps)(f:FuncId)(first cap:List D)(b:Bool)(hf:PC Pr G f (first++[q.d]++cap) (.bool b)):PC Pr G 269 [q.d,.rop [.fn f first cap] 0] (.bool (!b)):=by
 refine zai pok Tryz.func269 chk269 ?_
 conv=>whnf
 repeat' first|((first|refine LookP.mk _ rfl ?_|rw[za2]|refine zbk hf rfl ?_);conv=>whnf)|(intro t ht;cases t<;>conv=>whnf)
 all_goals rw[ht];exact fin rfl
theorem chk248:chkFn Tryz.f248=true:=qah
theorem every248(l:List Ps)(t:Bool)(f:FuncId)(first cap:List D)(p:Ps->Bool)(hn:l.length<=1000)(hf:∀ q,q∈l->PC Pr G f (first++[q.d]++cap) (.bool (p q))):PC Pr G 248 [rowsD l t,.fn f first cap] (.bool (l.all p)):=by
 have hi:=has196 (G:=G) l t 269 [] [.rop [.fn f first cap] 0] (fun q=>!p q) hn fun q hq=>ev269 q f first cap (p q) (hf q hq)
 have e:l.all p = !l.any (fun q=>!p q):=by
  rw[List.all_eq_not_any_not]
 rw[e]
 refine zai pok Tryz.func248 chk248 ?_
 conv=>whnf
 repeat' first|(refine zb4 hi rfl ?_)|(intro t ht;cases t<;>conv=>whnf)
 all_goals rw[ht];exact fin rfl
theorem chk249:chkFn Tryz.f249=true:=qah
theorem chks249(q r:Ps)(l:List Ps)(t:Bool):PC Pr G 249 [q.d,.rop [rowsD (r::l) t] 0] (.bool (decide (q.w=r.w))):=by
 refine zai pok Tryz.func249 chk249 ?_
 conv=>whnf
 repeat' first|((first|refine LookP.mk _ rfl ?_|refine And.intro qbi ?_|refine HpP.force ?_);conv=>whnf)|(intro t ht;cases t<;>conv=>whnf)
 all_goals
  refine fin ?_
  have e:(q.w==r.w)=decide (q.w=r.w):=by rw[Bool.eq_iff_iff];simp
  rw[<- e,ht]
theorem chk198:chkFn Tryz.f198=true:=qah
theorem zrq{w:Nat}(hw:1<=w/\w<=12)(r:Ps)(l:List Ps)(t:Bool)(hn:(r::l).length<=24)(hv:∀ q,q∈r::l->Vl w q):PC Pr G 198 [rowsD (r::l) t] (iD 0):=by
 have hev:=every248 (G:=G) (r::l) t 249 [] [.rop [rowsD (r::l) t] 0] (fun q=>decide (q.w=r.w)) qad fun q _=>chks249 q r l t
 have hall:(r::l).all (fun q=>decide (q.w=r.w))=true:=List.all_eq_true.2 fun q hq=>by simp[vl_w (hv q hq),vl_w (hv r qc3)]
 rw[hall]at hev
 generalize hm:r::l=m at hn hv hev
 refine zai pok Tryz.func198 chk198 ?_
 conv=>whnf
 repeat' first|(refine LookP.mk _ rfl ?_;conv=>whnf)|(intro t ht;cases t<;>conv=>whnf)
 rotate_left
 ·exact qbw
 ·exfalso
  have:1<=m.length:=by rw[<- hm];simp
  simp at ht;omega
 refine zaq pok (fun i=>⟨[(1,.ptr 0 1 0 0),(14,.d (rowsD m t)),(15,.d (iD (m.map Ps.l).length)),(16,.d (iD i))],[(0,some (.arr 1 [[.d (rowsD m t)]]))],1⟩) (m.length) (fun _=>True) (trivial) ?_ qah ?_ ?_
 ·exact qf2
 ·intro i A_i h_i I_i N_i
  have e_i:iadd .i64 (i:Int) 1=((i+1:Nat):Int):=zah qbl
  have hc:=zg7 (G:=G) m[i]
  rw[znp hw (hv _ (List.getElem_mem h_i))]at hc
  conv=>whnf
  repeat (refine LookP.mk _ rfl ?_;conv=>whnf)
  intro t ht
  cases t
  ·exact qbh
  conv=>whnf
  repeat' first|((first|refine LookP.mk _ qb5 ?_|refine ShlP.mk _ qaa ?_|refine And.intro qbi ?_|refine zak hc ?_|refine HpP.force ?_);conv=>whnf)|(intro t ht;cases t<;>conv=>whnf)
  ·refine N_i _ ?_ ?_
   ·exact qbj
   ·exact qf3
  ·exact qcx
 ·intro A_last I_last
  conv=>whnf
  repeat (refine LookP.mk _ rfl ?_;conv=>whnf)
  intro t ht
  cases t
  rotate_left
  ·exact qbh
  conv=>whnf
  repeat' first|(refine LookP.mk _ rfl ?_;conv=>whnf)|(refine zb4 hev rfl ?_)|(intro t ht;cases t<;>conv=>whnf)
  ·exfalso;cases ht
  ·exact fin rfl
theorem rowI_nat{w:Nat}(hw:w<=12){l:List Ps}(hv:∀ q,q∈l->Vl w q)(hn:l.length<=24):(rowI l).map Rw.l=(l.mapIdx fun n q=>((nf q).2,2^n)).map Rn.l:=by
 unfold rowI
 apply List.ext_getElem
 ·exact qc3
 ·intro i h1 h2
  have hi:i<l.length:=qcz
  simp only[List.getElem_map,List.getElem_mapIdx]
  obtain⟨X,Z,P,he,g1,g2,g3⟩:=hv l[i] (List.getElem_mem hi)
  have hp:(2:Nat)^w<=2^12:=Nat.pow_le_pow_right qag hw
  rw[he,zcq]
  show [iD (ior .i64 (X:Int) (ishl .i64 (Z:Int) (12:Nat))),iD (ishl .i64 1 i)]=[iD ((X+4096*Z:Nat):Int),iD ((2^i:Nat):Int)]
  rw[zcg qad,zo4 qag qad,Nat.shiftLeft_eq,zhz qad qad]
  have e:X ||| Z*2^12=X+4096*Z:=by
   have:=Nat.two_pow_add_eq_or_of_lt (show X<2^12 by omega) Z
   rw[Nat.or_comm,Nat.mul_comm Z,<- this];omega
  rw[e]
def rowN(l:List Ps):List Rn:=l.mapIdx fun n q=>((nf q).2,2^n)
def redF(l:List Ps):Nat->Rn:=redW (rowN l) l.length
theorem zlq{w:Nat}(hw:w<=12){l:List Ps}(hv:∀ q,q∈l->Vl w q)(hn:l.length<=24):∀ r,r∈rowN l->r.1<2^24/\r.2<2^24:=by
 intro r hr
 obtain⟨i,hi,rfl⟩:=List.mem_mapIdx.1 hr
 obtain⟨X,Z,P,he,g1,g2,g3⟩:=hv l[i] (List.getElem_mem hi)
 have hp:(2:Nat)^w<=2^12:=Nat.pow_le_pow_right qag hw
 rw[he,zcq]
 refine⟨by show X+4096*Z<2^24;omega,Nat.pow_lt_pow_right qag qad⟩
theorem zgt(l:List Ps):(rowN l).length=l.length:=by simp[rowN]
theorem redu199{w:Nat}(hw:w<=12){l:List Ps}(hv:∀ q,q∈l->Vl w q)(hn:l.length<=24):PC Pr GG 199 [.sl ((rowI l).map Rw.l) false] (.tup [rnD (lfW (redF l) l.length) false,rnD (gnW (redF l) l.length) false]):=by
 rw[rowI_nat hw hv hn]
 have:=red199 (rowN l) false (by rw[zgt];omega) (zlq hw hv hn)
 rw[zgt]at this
 exact this
theorem chk115:chkFn Tryz.f115=true:=qah
theorem ind115{w:Nat}(hw:1<=w/\w<=12)(l:List Ps)(t:Bool)(hpos:0<l.length)(hn:l.length<=24)(hv:∀ q,q∈l->Vl w q):PC Pr GG 115 [rowsD l t] (.tup [.bool (decide ((gnW (redF l) l.length).length=0)),iD 0]):=by
 have h1:PC Pr GG 198 [rowsD l t] (iD 0):=by
  cases l with
  | nil=>simp at hpos
  | cons r l=>exact zrq hw r l t hn hv
 have h2:=rows200 (G:=GG) l t qad
 have h3:=redu199 hw.2 hv hn
 generalize gnW (redF l) l.length=K at h3⊢
 generalize lfW (redF l) l.length=L at h3
 generalize (rowI l).map Rw.l=R at h2 h3
 refine zai pok Tryz.func115 chk115 ?_
 conv=>whnf
 repeat' first|((first|refine zak h1 ?_|refine zak h2 ?_|refine zak h3 ?_);conv=>whnf)|(intro t ht;cases t<;>conv=>whnf)
 ·have e:K.length≠0:=by intro h;simp[h]at ht
  rw[decide_eq_false e];exact fin rfl
 ·have e:K.length=0:=by simp at ht;simp[ht]
  rw[decide_eq_true e];exact fin rfl
 ·exact qcx
end Go.Tz
namespace Go.Tz
open Go Go.AL Go.Proofs Go.Ma
variable{G:Nat->Option (List D)}
theorem get_rn{l:List Rn}{k:Nat}(h:k<l.length):(l.map Rn.l)[(k:Int).toNat]?=some (l[k]).l:=qec
theorem rn_beq(q r:Rn):([(q.1:Int),(q.2:Int)]==[(r.1:Int),(r.2:Int)])=decide (q=r):=by
 obtain⟨a,b⟩:=q
 obtain⟨a',b'⟩:=r
 rw[Bool.eq_iff_iff];simp;omega
def oth(r:Rn)(l:List Rn):Nat:=l.foldl (fun o x=>if x=r then o else o ||| x.1) 0
theorem oth_snoc{r:Rn}{l:List Rn}{i:Nat}(h:i<l.length):oth r (l.take (i+1))=if l[i]=r then oth r (l.take i) else oth r (l.take i) ||| l[i].1:=by
 unfold oth
 rw[zbe h,List.foldl_append];rfl
theorem oth_lt{r:Rn}:∀{l:List Rn},(∀ x,x∈l->x.1<2^24)->oth r l<2^24:=by
 intro l h
 have key:∀(l:List Rn) (o:Nat),o<2^24->(∀ x,x∈l->x.1<2^24)->l.foldl (fun o x=>if x=r then o else o ||| x.1) o<2^24:=by
  intro l
  induction l with
  | nil=>exact fun o h _=>h
  | cons x l ih =>
   intro o ho hl
   refine ih _ ?_ fun y hy=>hl y (List.mem_cons_of_mem _ hy)
   show(if x=r then o else o ||| x.1)<2^24
   split
   ·exact ho
   ·exact Nat.or_lt_two_pow ho (hl x qc3)
 exact key l 0 qag h
def andn(a b:Nat):Nat:=a^^^(a &&& b)
theorem zk6(a b j:Nat):(andn a b).testBit j=(a.testBit j && !b.testBit j):=by
 unfold andn
 rw[Nat.testBit_xor,Nat.testBit_and]
 cases a.testBit j<;>cases b.testBit j<;>rfl
theorem zpz{a b k:Nat}(h:a<2^k):andn a b<2^k:=Nat.xor_lt_two_pow h (Nat.lt_of_le_of_lt Nat.and_le_left h)
theorem ztl{a b:Nat}(ha:a<2^63)(hb:b<2^63):iandNot .i64 a b=((andn a b:Nat):Int):=by
 unfold iandNot
 show IntKind.i64.wrap ((BitVec.ofInt 64 a &&& ~~~ BitVec.ofInt 64 b).toNat:Int)=_
 have e:(BitVec.ofInt 64 (a:Int) &&& ~~~ BitVec.ofInt 64 (b:Int)).toNat=andn a b:=by
  refine Nat.eq_of_testBit_eq fun j=>?_
  rw[zk6,BitVec.toNat_and,Nat.testBit_and,zds ha]
  rw[BitVec.toNat_not,zds hb]
  by_cases hj:j<64
  ·have:2^64-1-b=2^64-(b+1):=by omega
   rw[this,Nat.testBit_two_pow_sub_succ qad]
   simp[hj]
  ·rw[Nat.testBit_lt_two_pow (Nat.lt_of_lt_of_le ha (Nat.pow_le_pow_right qag qad))];simp
 rw[e]
 have:=zpz (b:=b) ha
 exact zcd qad qad
def ownN(l:List Rn)(r:Rn):Nat:=tzN (andn r.1 (oth r l))
theorem tz_le(n:Nat)(h:n<2^24):tzN n<=64:=by
 unfold tzN;split
 ·exact qad
 ·rename_i h0;have:=(zg0 h0 h).1;omega
theorem chk246:chkFn Tryz.f246=true:=qah
theorem own246(l:List Rn)(t:Bool)(r:Rn)(hn:l.length<=1000)(hr:r.1<2^24)(hl:∀ x,x∈l->x.1<2^24):PC Pr GG 246 [rnD l t,.agg r.l] (iD (ownN l r)):=by
 refine zai pok Tryz.func246 chk246 ?_
 conv=>whnf
 skip
 refine zaq pok (fun i=>⟨[(3,.ptr 0 2 0 0),(5,.d (iD (oth r (l.take i)))),(8,.d (rnD l t)),(9,.d (iD (l.map Rn.l).length)),(10,.d (iD i))],[(0,some (.arr 2 [r.l.map AV.d]))],1⟩) (l.length) (fun _=>True) (trivial) ?_ qah ?_ ?_
 ·exact qf2
 ·intro i A_i h_i I_i N_i
  have e_i:iadd .i64 (i:Int) 1=((i+1:Nat):Int):=zah qbl
  have hs:=oth_snoc (r:=r) h_i
  have ho:oth r (l.take i)<2^24:=oth_lt fun x hx=>hl x (List.mem_of_mem_take hx)
  have hx:=hl _ (List.getElem_mem h_i)
  generalize oth r (l.take i)=o at hs ho⊢
  conv=>whnf
  repeat (refine LookP.mk _ rfl ?_;conv=>whnf)
  intro t ht
  cases t
  ·exact qbh
  conv=>whnf
  repeat' first|((first|refine LookP.mk _ (by first|rfl|exact get_rn h_i) ?_|refine ShlP.mk _ qaa ?_|refine And.intro qbi ?_|refine HpP.force ?_);conv=>whnf)|(intro t ht;cases t<;>conv=>whnf)
  ·have e:l[i]=r:=by
    have q:=rn_beq l[i] r
    cases c:([(l[i].1:Int),(l[i].2:Int)]==[(r.1:Int),(r.2:Int)]) with
    | true=>rw[c]at q;simpa using q.symm
    | false=>rw[c]at ht;cases ht
   rw[if_pos e]at hs
   refine N_i _ ?_ ?_
   ·exact qbj
   ·exact qgx
  ·have e:l[i]≠r:=by
    intro e
    have q:=rn_beq l[i] r
    rw[e]at q
    rw[e,q]at ht
    simp at ht
   rw[if_neg e]at hs
   rw[zhz qad qad]
   refine N_i _ ?_ ?_
   ·exact qbj
   ·exact qgx
 ·intro A_last I_last
  rw[List.take_length]
  have ho:oth r l<2^24:=oth_lt hl
  have htz:=tz_c (zpz (b:=oth r l) hr)
  rw[<- ztl qad qad]at htz
  unfold ownN
  generalize tzN (andn r.1 (oth r l))=z at htz⊢
  generalize oth r l=o at htz⊢
  conv=>whnf
  repeat (refine LookP.mk _ rfl ?_;conv=>whnf)
  intro t ht
  cases t
  rotate_left
  ·exact qbh
  conv=>whnf
  repeat' first|((first|refine LookP.mk _ rfl ?_|refine zak htz ?_);conv=>whnf)
  exact fin rfl
def fstp(L:List Rn)(a:Nat×Nat)(r:Rn):Nat×Nat:=if a.1.testBit (ownN L r)=true then(a.1^^^r.1,a.2^^^r.2) else a
def fndS(L:List Rn)(v i:Nat):Nat×Nat:=(L.take i).foldl (fstp L) (v,0)
theorem zv3{L:List Rn}{v i:Nat}(h:i<L.length):fndS L v (i+1)=fstp L (fndS L v i) L[i]:=by
 unfold fndS
 rw[zbe h,List.foldl_append];rfl
theorem fnd_lt{L:List Rn}{v:Nat}(hv:v<2^24)(hL:∀ x,x∈L->x.1<2^24/\x.2<2^24)(i:Nat):(fndS L v i).1<2^24/\(fndS L v i).2<2^24:=by
 have key:∀(l:List Rn) (a:Nat×Nat),(∀ x,x∈l->x.1<2^24/\x.2<2^24)->a.1<2^24/\a.2<2^24->(l.foldl (fstp L) a).1<2^24/\(l.foldl (fstp L) a).2<2^24:=by
  intro l
  induction l with
  | nil=>exact fun a _ h=>h
  | cons x l ih =>
   intro a hl ha
   refine ih _ (fun y hy=>hl y (List.mem_cons_of_mem _ hy)) ?_
   unfold fstp
   have hx:=hl x qc3
   split
   ·exact⟨Nat.xor_lt_two_pow ha.1 hx.1,Nat.xor_lt_two_pow ha.2 hx.2⟩
   ·exact ha
 exact key _ _ (fun x hx=>hL x (List.mem_of_mem_take hx)) ⟨hv,Nat.two_pow_pos 24⟩
def allS(w:Int)(l:List Ps)(m:Nat):Nat->Ps
 | 0=>⟨w,0,0,0⟩
 | i+1=>if m.testBit i=true then timS (allS w l m i) (l.getD i Ps.z0) else allS w l m i
theorem allS_w(w:Int)(l:List Ps)(m:Nat):∀ i,(allS w l m i).w=w
 | 0=>rfl
 | i+1=>by
  simp only[allS]
  split
  ·exact allS_w w l m i
  ·exact allS_w w l m i
def outL(m i:Nat):List (List D):=((List.range i).filter fun n=>m.testBit n).map fun n:Nat=>[iD (n:Int)]
theorem outL_snoc(m i:Nat):outL m (i+1)=if m.testBit i=true then outL m i++[[iD i]] else outL m i:=by
 unfold outL
 rw[List.range_succ,List.filter_append,List.map_append]
 by_cases h:m.testBit i=true
 ·rw[if_pos h];simp[h]
 ·rw[if_neg h];simp[h]
theorem outL_le(m i:Nat):(outL m i).length<=i:=by
 have:=List.length_filter_le (fun n=>m.testBit n) (List.range i)
 simpa[outL] using this
theorem dw_any3(a b c:D):DW (.tup [a,b,c]) (.tup [.any,b,c]):=by
 intro w RO x h
 cases h with
 | tup _ cs hs h =>
  refine .tup _ cs hs fun i d hd=>?_
  match i,hd with
  | 0,hd=>simp at hd;subst hd;exact .any _
  | 1,hd=>exact h 1 d hd
  | 2,hd=>exact h 2 d hd
  | i+3,hd=>simp at hd
theorem asD_tup3{H:AHeap}{v1 v2 v3:AV}{d1 d2 d3:D}(h1:AsD H v1 d1)(h2:AsD H v2 d2)(h3:AsD H v3 d3):AsD H (.tup [v1,v2,v3]) (.tup [d1,d2,d3]):=by
 refine .tup _ _ rfl fun j v d hv hd=>?_
 match j,hv,hd with
 | 0,hv,hd=>simp at hv hd;subst hv hd;exact h1
 | 1,hv,hd=>simp at hv hd;subst hv hd;exact h2
 | 2,hv,hd=>simp at hv hd;subst hv hd;exact h3
 | j+3,hv,_=>simp at hv
def fndD(l:List Ps)(L:List Rn)(p:Ps):D:=if(fndS L (nf p).2 L.length).1=0 then .tup [.any,iD ((iadd .i64 (isub .i64 p.p (allS p.w l (fndS L (nf p).2 L.length).2 l.length).p) 4).tmod 4),iD 0] else .tup [.any,iD 0,iD 6]
theorem lf_lt{rf:Nat->Rn}{n:Nat}(h:∀ j,(rf j).1<2^24/\(rf j).2<2^24):∀ x,x∈lfW rf n->x.1<2^24/\x.2<2^24:=by
 intro x hx
 obtain⟨j,_,rfl⟩:=List.mem_map.1 (List.mem_filter.1 hx).1
 exact h j
theorem chk194:chkFn Tryz.f194=true:=qah
theorem find194{w:Nat}(hw:1<=w/\w<=12)(l:List Ps)(t:Bool)(p:Ps)(hpos:0<l.length)(hn:l.length<=24)(hv:∀ q,q∈l->Vl w q)(hp:Vl w p)(hg:gnW (redF l) l.length=[]) :
  PC Pr GG 194 [rowsD l t,p.d] (fndD l (lfW (redF l) l.length) p):=by
 have h1:PC Pr GG 198 [rowsD l t] (iD 0):=by
  cases l with
  | nil=>simp at hpos
  | cons r l=>exact zrq hw r l t hn hv
 have h2:=rows200 (G:=GG) l t qad
 have h3:=redu199 hw.2 hv hn
 have h4:=zg7 (G:=GG) p
 rw[znp hw hp]at h4
 rw[hg]at h3
 have hL:=lf_lt (rf:=redF l) (n:=l.length) (zht (zlq hw.2 hv hn) l.length)
 have hlen:(lfW (redF l) l.length).length<=l.length:=by
  have:=List.length_filter_le (fun r:Rn=>decide (r.1≠0)) ((List.range l.length).map (redF l));simpa[lfW] using this
 have hvp:(nf p).2<2^24:=by
  obtain⟨X,Z,P,rfl,g1,g2,g3⟩:=hp
  have hp:(2:Nat)^w<=2^12:=Nat.pow_le_pow_right qag hw.2
  rw[zcq];show X+4096*Z<2^24;omega
 have hbits:ior .i64 p.x (ishl .i64 p.z 12)=(((nf p).2:Nat):Int):=by
  obtain⟨X,Z,P,rfl,g1,g2,g3⟩:=hp
  have hp:(2:Nat)^w<=2^12:=Nat.pow_le_pow_right qag hw.2
  rw[zcq]
  show ior .i64 (X:Int) (ishl .i64 (Z:Int) (12:Nat))=((X+4096*Z:Nat):Int)
  rw[zo4 qag qad,Nat.shiftLeft_eq,zhz qad qad]
  have e:X ||| Z*2^12=X+4096*Z:=by
   have:=Nat.two_pow_add_eq_or_of_lt (show X<2^12 by omega) Z
   rw[Nat.or_comm,Nat.mul_comm Z,<- this];omega
  rw[e]
 generalize hL0:lfW (redF l) l.length=L at h3 hL hlen
 clear hL0 hg
 generalize (rowI l).map Rw.l=R at h2 h3
 unfold fndD
 generalize (nf p).2=v at hvp hbits⊢
 have hl0:∃ r,r∈l/\l[0]?=some r:=⟨l[0],List.getElem_mem hpos,by rw[List.getElem?_eq_getElem hpos]⟩
 have hg0:(l.map Ps.l)[(0:Int).toNat]?=some (l[0]).l:=get_l0 hpos
 have hwp:p.w=(l[0]).w:=by rw[vl_w hp,vl_w (hv _ (List.getElem_mem hpos))]
 have hdw:∀ v:AV,∀ H:AHeap,True:=fun _ _=>trivial
 refine znq (za3 Tryz.func194 chk194) (za4 pok Tryz.func194 chk194 ?_)
 conv=>whnf
 repeat' first|((first|refine LookP.mk _ (by first|rfl|exact hg0) ?_|refine And.intro qbi ?_|refine zak h1 ?_|refine zak h2 ?_|refine zak h3 ?_|refine zak h4 ?_|refine HpP.force ?_);conv=>whnf)|(intro t ht;cases t<;>conv=>whnf)
 rotate_left
 ·exact qcx
 ·exfalso;simp at ht;exact ht hwp
 ·exact qcx
 ·exact qcx
 refine zaq pok (fun i=>⟨[(0,.d (rowsD l t)),(3,.ptr 0 4 0 0),(9,.d (rnD L false)),(11,.d (iD (fndS L v i).1)),(12,.d (iD (fndS L v i).2)),(52,.d (rnD L false)),(53,.d (iD (L.map Rn.l).length)),(54,.d (iD i))],[(0,some (.arr 4 [p.l.map AV.d]))],1⟩) (L.length) (fun _=>True) (trivial) ?_ qah ?_ ?_
 ·refine zac qac ?_ ?_ trivial
  ·repeat' first|exact trivial|refine⟨⟨by first|rfl|assumption|exact congrArg (fun n=>AV.d (iD n)) hbits,rfl⟩,?_⟩
  ·exact qab
 ·intro i A_i h_i I_i N_i
  have e_i:iadd .i64 (i:Int) 1=((i+1:Nat):Int):=zah qbl
  have hs:=zv3 (v:=v) h_i
  have hb:=fnd_lt hvp hL i
  have hr:=hL _ (List.getElem_mem h_i)
  have ho:=own246 L false L[i] qad hr.1 fun x hx=>(hL x hx).1
  have hle:ownN L L[i]<=64:=tz_le _ (zpz hr.1)
  unfold fstp at hs
  generalize fndS L v i=a at hs hb⊢
  generalize ownN L L[i]=b at hs ho hle
  conv=>whnf
  repeat (refine LookP.mk _ rfl ?_;conv=>whnf)
  intro t ht
  cases t
  ·exact qbh
  conv=>whnf
  repeat' first|((first|refine LookP.mk _ (by first|rfl|exact get_rn h_i) ?_|refine ShlP.mk _ qaa ?_|refine And.intro qbi ?_|refine zak ho ?_|refine HpP.force ?_);conv=>whnf)|(intro t ht;cases t<;>conv=>whnf)
  ·rw[zem hle qad]at ht
   have e:a.1.testBit b=false:=by
    cases c:a.1.testBit b with
    | false=>rfl
    | true=>rw[c]at ht;simp at ht
   rw[e,if_neg qc3]at hs
   refine N_i _ ?_ ?_
   ·exact qbj
   ·exact qgx
  ·rw[zem hle qad]at ht
   have e:a.1.testBit b=true:=by
    cases c:a.1.testBit b with
    | true=>rfl
    | false=>rw[c]at ht;simp at ht
   rw[e,if_pos rfl]at hs
   rw[zg1 qad qad,zg1 qad qad]
   refine N_i _ ?_ ?_
   ·exact qbj
   ·exact qgx
 ·intro A_last I_last
  have hlt:=fnd_lt hvp hL L.length
  generalize fndS L v L.length=a at hlt⊢
  have ha:∀ i:Nat,i<=64->iand .i64 (ishr .i64 (a.2:Int) (i:Int)) 1=if a.2.testBit i=true then 1 else 0:=fun i hi=>zem hi (Nat.lt_of_lt_of_le hlt.2 (Nat.pow_le_pow_right qag qag))
  conv=>whnf
  repeat (refine LookP.mk _ rfl ?_;conv=>whnf)
  intro t ht
  cases t
  rotate_left
  ·exact qbh
  conv=>whnf
  repeat' first|((first|refine LookP.mk _ rfl ?_|refine ShlP.mk _ qaa ?_|refine HpP.force ?_);conv=>whnf)|(intro t ht;cases t<;>conv=>whnf)
  rotate_left
  ·have e:a.1≠0:=by simp at ht;omega
   refine fin ⟨_,.d _,?_⟩
   rw[if_neg e]
   exact dw_any3 _ _ _
  have e:a.1=0:=by simp at ht;omega
  rw[if_pos e]
  refine zaq pok (fun i=>⟨[(3,.ptr 0 4 0 0),(12,.d (iD a.2)),(16,.sl 2 1 0 (outL a.2 i).length (outL a.2 i).length false),(17,.ptr 1 4 0 0),(80,.d (rowsD l t)),(81,.d (iD (l.map Ps.l).length)),(82,.d (iD i))],[(0,some (.arr 4 [p.l.map AV.d])),(1,some (.arr 4 [(allS p.w l a.2 i).l.map AV.d])),(2,some (dblk 1 (outL a.2 i)))],3⟩) (l.length) (fun _=>True) (trivial) ?_ qah ?_ ?_
  ·refine Sub.trans (zhp (t:=16) (S:=1) (Nat.zero_le _) rfl) ?_
   refine zac qac ?_ ?_ trivial
   ·exact qae
   ·exact qab
  ·intro i A_i h_i I_i N_i
   have e_i:iadd .i64 (i:Int) 1=((i+1:Nat):Int):=zah qbl
   have hs:=outL_snoc a.2 i
   have hle:=outL_le a.2 i
   have hs2:allS p.w l a.2 (i+1)=if a.2.testBit i=true then timS (allS p.w l a.2 i) l[i] else allS p.w l a.2 i:=by
    simp only[allS,List.getD_eq_getElem?_getD,List.getElem?_eq_getElem h_i,Option.getD_some]
   have hgw:=allS_w p.w l a.2 i
   generalize outL a.2 i=O at hs hle
   generalize allS p.w l a.2 i=g at hs2 hgw
   have hb:=ha i qad
   have hgb:0<=g.w/\g.w<=24:=by rw[hgw,vl_w hp];omega
   conv=>whnf
   repeat (refine LookP.mk _ rfl ?_;conv=>whnf)
   intro t ht
   cases t
   ·exact qbh
   conv=>whnf
   repeat' first|((first|refine LookP.mk _ qb5 ?_|refine ShlP.mk _ qaa ?_|(refine And.intro (by first|exact Nat.le_refl _|exact⟨by simp,by decide,by show(2*(O.length+1)+192)*8<=281474976710656;omega⟩|assumption|exact⟨by kernel_rfl,rfl⟩|decide|omega) ?_)|rw[nbeq]|refine zfm (znb g [l[i]] true hgb qc3) rfl ?_|refine HpP.force ?_);conv=>whnf)|(intro t ht;cases t<;>conv=>whnf)
   ·have e:a.2.testBit i=false:=by
     rw[hb]at ht
     cases c:a.2.testBit i with
     | false=>rfl
     | true=>rw[c]at ht;simp at ht
    rw[e,if_neg qc3]at hs hs2
    refine N_i _ ?_ ?_
    ·exact qbj
    ·refine zac qac ?_ ?_ trivial
     ·exact qa2
     ·repeat' first|exact trivial|refine⟨⟨ltB rfl,_,rfl,by first|rfl|assumption|(rw[hs];rfl)|(rw[hs2];rfl),by first|exact zae rfl|exact zaa _ _ _|exact zab rfl|exact zaa _ _ _⟩,?_⟩
   ·have e:a.2.testBit i=true:=by
     rw[hb]at ht
     cases c:a.2.testBit i with
     | true=>rfl
     | false=>rw[c]at ht;simp at ht
    rw[e,if_pos rfl]at hs hs2
    refine N_i _ ?_ ?_
    ·exact qbj
    ·first|refine zav [(2,5)] ?_ ?_ ?_ trivial|refine zap [(2,5)] rfl rfl ?_ ?_ ?_ trivial
     ·repeat' first|exact trivial|refine⟨⟨by first|rfl|assumption|exact congrArg (fun n=>AV.d (iD n)) e_i|(rw[hs,List.length_append];rfl),rfl⟩,?_⟩
     ·repeat' first|exact trivial|refine⟨⟨ltB rfl,_,rfl,by first|rfl|assumption|exact zag rfl (by first|rfl|assumption|exact zag rfl (by rw[hs];exact congrArg some (zax rfl))|(rw[hs2];rfl))|exact zag rfl (by rw[hs];exact congrArg some (zax rfl))|(rw[hs2];rfl),by first|exact zae rfl|exact zaa _ _ _|exact zab rfl|exact zaa _ _ _⟩,?_⟩
     ·exact qaf
  ·intro A_last I_last
   conv=>whnf
   repeat (refine LookP.mk _ rfl ?_;conv=>whnf)
   intro t ht
   cases t
   rotate_left
   ·exact qbh
   conv=>whnf
   repeat' first|((first|refine LookP.mk _ rfl ?_|refine And.intro qbi ?_|refine HpP.force ?_);conv=>whnf)
   refine fin ⟨_,asD_tup3 (zg9 rfl rfl) (.d _) (.d _),?_⟩
   exact dw_any3 _ _ _
end Go.Tz
namespace Go.Tz
open Go Go.AL Go.Proofs Go.Ma
variable{G:Nat->Option (List D)}
theorem chk192:chkFn Tryz.f192=true:=qah
theorem has192(c:Nat)(q:Ps):PC Pr G 192 [.agg [iD (c%2:Nat),iD (c / 2:Nat)],q.d] (iD (bitI (if(c:Int)%2=0 then q.x else q.z) ((c:Int) / 2))):=by
 have h:c%2=0\/c%2=1:=qad
 have e2:(c:Int) / 2=((c / 2:Nat):Int):=qad
 have e1:(if(c:Int)%2=0 then q.x else q.z)=if c%2=0 then q.x else q.z:=by
  by_cases e:c%2=0
  ·rw[if_pos e,if_pos qad]
  ·rw[if_neg e,if_neg qad]
 rw[e1,e2]
 generalize c / 2=d
 refine zai pok Tryz.func192 chk192 ?_
 rcases h with h|h
 ·rw[h,if_pos rfl]
  conv=>whnf
  repeat' first|((first|refine LookP.mk _ rfl ?_|refine ShlP.mk _ qaa ?_|refine And.intro qbi ?_|refine HpP.force ?_);conv=>whnf)
  exact fin rfl
 ·rw[h,if_neg qag]
  conv=>whnf
  repeat' first|((first|refine LookP.mk _ rfl ?_|refine ShlP.mk _ qaa ?_|refine And.intro qbi ?_|refine HpP.force ?_);conv=>whnf)
  exact fin rfl
theorem chk193:chkFn Tryz.f193=true:=qah
theorem has193(c:Nat)(q:Ps):PC Pr G 193 [q.d,.rop [iD (c%2:Nat),iD (c / 2:Nat)] 0] (.bool (bitB q c)):=by
 have hh:=has192 (G:=G) c q
 have e:bitB q c=(bitI (if(c:Int)%2=0 then q.x else q.z) ((c:Int) / 2)==1):=by
  unfold bitB;rw[Bool.eq_iff_iff];simp
 rw[e]
 generalize bitI (if(c:Int)%2=0 then q.x else q.z) ((c:Int) / 2)=b at hh⊢
 refine zai pok Tryz.func193 chk193 ?_
 conv=>whnf
 repeat' first|((first|refine LookP.mk _ rfl ?_|refine zak hh ?_);conv=>whnf)|(intro t ht;cases t<;>conv=>whnf)
 all_goals rw[ht];exact fin rfl
theorem psB_list(l:List Ps):Blk.arr 4 ((l.map Ps.l).map fun x=>x.map AV.d)=dblk 4 ((List.range l.length).map fun j=>Ps.l (l.getD j Ps.z0)):=by
 unfold dblk
 congr 2
 apply List.ext_getElem
 ·exact qc3
 ·exact qhi
theorem zsm{w n a f:Nat}{rf:Nat->Ps}(h:∀ j,j<n->Vl w (rf j))(ha:a<n)(hf:f<n):∀ j,j<n->Vl w (swapF rf a f j):=by
 intro j hj
 unfold swapF
 split
 ·exact h f hf
 ·split
  ·exact h a ha
  ·exact h j hj
theorem clr_vl{w n a c i:Nat}{rf:Nat->Ps}(hw:w<=12)(h:∀ j,j<n->Vl w (rf j))(ha:a<n):∀ j,j<n->Vl w (clrR rf a c i j):=by
 intro j hj
 unfold clrR
 split
 ·exact zes hw (h j hj) (h a ha)
 ·exact h j hj
theorem zek{rf:Nat->Ps}{n c a f:Nat}(h:fndO rf n c a=some f):a<=f/\f<n/\bitB (rf f) c=true /\ ∀ j,a<=j->j<f->bitB (rf j) c=false:=by
 unfold fndO at h
 rw[List.find?_range_eq_some]at h
 obtain⟨p1,p2,p3⟩:=h
 simp at p1
 refine⟨p1.1,List.mem_range.1 p2,p1.2,fun j hj hlt=>?_⟩
 have:=p3 j hlt
 simp at this
 rcases this with h|h
 ·exact qad
 ·exact h
theorem zmh{rf:Nat->Ps}{n c a:Nat}(h:fndO rf n c a=none):∀ j,a<=j->j<n->bitB (rf j) c=false:=by
 intro j hj hlt
 unfold fndO at h
 have:=List.find?_eq_none.1 h j (List.mem_range.2 hlt)
 simpa[hj] using this
theorem zeq{w:Nat}(hw:w<=12){l:List Ps}(hv:∀ q,q∈l->Vl w q):∀ c,(∀ j,j<l.length->Vl w ((redN l c).1 j))/\(redN l c).2.2<=l.length
 | 0=>⟨fun j hj=>by simp only[redN,List.getD_eq_getElem?_getD,List.getElem?_eq_getElem hj,Option.getD_some];exact hv _ (List.getElem_mem hj),Nat.zero_le _⟩
 | c+1=>by
  obtain⟨q1,q2⟩:=zeq hw hv c
  simp only[redN,colS]
  split
  ·exact⟨q1,q2⟩
  ·rename_i f hf
   obtain⟨p3,p2,_⟩:=zek hf
   have p4:(redN l c).2.2<l.length:=qad
   exact⟨clr_vl hw (zsm q1 p4 p2) p4,p4⟩
theorem idx_fnd{rf:Nat->Ps}{n c a:Nat}(ha:a<=n):idxI (fun q=>bitB q c) (((List.range n).map rf).drop a)=match fndO rf n c a with
  | some f=>((f-a:Nat):Int)
  | none=>-1:=by
 cases h:fndO rf n c a with
 | none =>
  have h0:=zmh h
  refine zfd fun q hq=>?_
  obtain⟨i,hi,rfl⟩:=List.getElem_of_mem hq
  have hi':i<n-a:=qd7
  simp only[List.getElem_drop,List.getElem_map,List.getElem_range]
  exact h0 _ qad qad
 | some f =>
  obtain⟨h1,h2,h3,h4⟩:=zek h
  have hl:f-a<(((List.range n).map rf).drop a).length:=qbo
  refine zfc hl ?_ fun q hq=>?_
  ·simp only[List.getElem_drop,List.getElem_map,List.getElem_range]
   rw[show a+(f-a)=f by omega];exact h3
  ·obtain⟨i,hi,rfl⟩:=List.mem_take_iff_getElem.1 hq
   have hi':i<f-a:=qad
   simp only[List.getElem_drop,List.getElem_map,List.getElem_range]
   exact h4 _ qad qad
theorem zwq{H:AHeap}{nm N a:Nat}{g:Nat->Ps}{t:Bool}(hg:H.get nm=some (dblk 4 ((List.range N).map fun j=>(g j).l)))(ha:a<=N):AsD H (.sl nm 4 (0+(a:Int).toNat) (N-(a:Int).toNat) (N-(a:Int).toNat) t) (rowsD (((List.range N).map g).drop a) t):=by
 rw[Int.toNat_natCast,Nat.zero_add]
 have:=zea (lo:=a) (len:=N-a) (room:=N-a) (t:=t) hg qbo
 have e:(((List.range N).map fun j=>(g j).l).drop a).take (N-a)=(((List.range N).map g).drop a).map Ps.l:=by
  rw[List.take_of_length_le qc3,List.map_drop,List.map_map];rfl
 rw[e]at this
 have et:(t&&decide (N-a=N-a))=t:=qc3
 rw[et]at this
 exact this
theorem zbm{N:Nat}{f g:Nat->List D}(h:∀ j,f j=g j):Blk.arr 4 (((List.range N).map f).map fun el=>el.map AV.d)=dblk 4 ((List.range N).map g):=by rw[funext h];rfl
theorem zpx{H:AHeap}{v1 v2:AV}{d1 d2:D}(h1:AsD H v1 d1)(h2:AsD H v2 d2):AsD H (.agg [v1,v2]) (.agg [d1,d2]):=by
 refine .agg _ _ rfl fun j v d hv hd=>?_
 match j,hv,hd with
 | 0,hv,hd=>simp at hv hd;subst hv hd;exact h1
 | 1,hv,hd=>simp at hv hd;subst hv hd;exact h2
 | j+2,hv,_=>simp at hv
theorem zjx{H:AHeap}{f:FuncId}{v:AV}{d:D}(h:AsD H v d):AsD H (.fn f [] [v]) (.fn f [] [d]):=by
 refine .fn f _ _ _ _ rfl rfl (fun j v d h1=>by simp at h1) fun j v' d' h1 h2=>?_
 match j,h1,h2 with
 | 0,h1,h2=>simp at h1 h2;subst h1 h2;exact h
 | j+1,h1,_=>simp at h1
theorem zjw{H:AHeap}{nm sz:Nat}{ds:List D}(hg:H.get nm=some (.arr sz [ds.map AV.d])):AsD H (.ptr nm sz 0 0) (.rop ds 0):=by
 refine .ptr nm sz 0 0 _ _ ds hg rfl qc3 fun j v d h1 h2=>?_
 rw[List.getElem?_map,h2]at h1
 simp at h1;subst h1;exact .d d
theorem zgx{f:FuncId}{v1 v2:AV}{d1 d2 d:D}{H:AHeap}{nx:Nat}{k:AV->AHeap->Nat->Prop}(h:PC Pr G f [d1,d2] d)(h1:AsD H v1 d1)(h2:AsD H v2 d2)(hf:d.flat=true)(hk:k (.d d) H nx):CallVC Pr G f [v1,v2] H nx k:=by
 refine zs6 h rfl (fun i v d a1 a2=>?_) hf hk
 match i,a1,a2 with
 | 0,a1,a2=>simp at a1 a2;subst a1 a2;exact h1
 | 1,a1,a2=>simp at a1 a2;subst a1 a2;exact h2
 | i+2,a1,_=>simp at a1
theorem chk191:chkFn Tryz.f191=true:=qah
theorem chk105:chkFn Tryz.f105=true:=qah
theorem canon105a{w:Nat}(hw:1<=w/\w<=12)(l:List Ps)(t:Bool)(hn:l.length<=1000)(hv:∀ q,q∈l->Vl w q):ACall Pr G 105 [.d (stD w l t)] [] 0 fun v H _=>v = .agg [.d (iD w),.sl 2 4 0 l.length l.length true]/\H.get 2=some (dblk 4 ((redRows l (2*w)).map Ps.l)):=by
 refine za4 pok Tryz.func105 chk105 ?_
 conv=>whnf
 repeat' first|((first|refine LookP.mk _ rfl ?_|refine ShlP.mk _ qa8 ?_|(refine And.intro (by first|exact⟨Int.natCast_nonneg _,rfl,by show 32*(((l.map Ps.l).length:Nat):Int).toNat<=281474976710656;rw[Int.toNat_natCast,List.length_map];omega,by decide,by decide⟩|exact zkl _|exact qb4|assumption|exact⟨by kernel_rfl,rfl⟩|decide|omega) ?_)|rw[rows_sc]|refine HpP.force ?_);conv=>whnf)
 have eN:(((l.map Ps.l).length:Nat):Int).toNat=l.length:=qc3
 have hrv:=zeq hw.2 hv
 have e2:imul .i64 2 (w:Int)=((2*w:Nat):Int):=zet (a:=2) qad
 refine zaq pok (fun c=>⟨[(1,.ptr 0 2 0 0),(2,.ptr 1 2 0 0),(3,.ptr 3 1 0 0),(4,.d (iD (redN l c).2.2)),(5,.fn 191 [] [.ptr 3 1 0 0]),(20,.d (iD (2*w:Nat))),(21,.d (iD c))],[(0,some (.arr 2 [[.d (iD w),.d (rowsD l t)]])),(1,some (.arr 2 [[.d (iD 0),.d (.sl [] true)]])),(2,some (dblk 4 ((List.range l.length).map fun j=>((redN l c).1 j).l))),(3,some (.arr 1 [[.sl 2 4 0 l.length l.length true]]))],4⟩) ((2*w)) (fun _=>True) (trivial) ?_ qah ?_ ?_
 ·refine zac qac ?_ ?_ trivial
  ·exact qc4
  ·repeat' first|exact trivial|refine⟨⟨ltB rfl,_,rfl,by first|rfl|assumption|exact congrArg some (psB_list l)|(show some (Blk.arr 1 [[AV.sl 2 4 0 (((l.map Ps.l).length:Nat):Int).toNat (((l.map Ps.l).length:Nat):Int).toNat true]])=_;rw[eN]),by first|exact zae rfl|exact zaa _ _ _|exact zab rfl⟩,?_⟩
 ·intro c A_c h_c I_c N_c
  have e_c:iadd .i64 (c:Int) 1=((c+1:Nat):Int):=zah qbl
  obtain⟨hvr,han⟩:=hrv c
  have hnx:redN l (c+1)=colS l.length c (redN l c):=rfl
  unfold colS at hnx
  generalize hR:redN l c=s at hvr han hnx⊢
  obtain⟨rf,wb,a⟩:=s
  dsimp only at hvr han hnx⊢
  conv=>whnf
  repeat (refine LookP.mk _ rfl ?_;conv=>whnf)
  intro t ht
  cases t
  ·exact qbh
  conv=>whnf
  repeat' first|((first|refine LookP.mk _ rfl ?_|refine ShlP.mk _ qaa ?_|refine And.intro qbm ?_|refine HpP.force ?_);conv=>whnf)
  have e3:(c:Int).tmod 2=((c%2:Nat):Int):=by rw[Int.tmod_eq_emod_of_nonneg qad];rfl
  have e4:iquo .i64 (c:Int) 2=((c / 2:Nat):Int):=by
   have:=iquo_eq (c:=(c:Int)) (d:=2) qad qad qag qag
   rw[this];rfl
  rw[e3,e4]
  have hidx:=idx180 (G:=G) (((List.range l.length).map rf).drop a) true 193 [] [.rop [iD (c%2:Nat),iD (c / 2:Nat)] 0] (fun q=>bitB q c) qbo fun q _=>has193 c q
  rw[idx_fnd han]at hidx
  cases hf:fndO rf l.length c a with
  | none =>
   rw[hf]at hidx hnx
   dsimp only at hidx hnx
   refine zgx hidx (zwq rfl han) (zjx (zjw rfl)) rfl ?_
   conv=>whnf
   repeat' first|(refine LookP.mk _ rfl ?_;conv=>whnf)|(intro t ht;cases t<;>conv=>whnf)
   ·exact qcx
   ·refine N_c _ ?_ ?_
    ·exact qbj
    ·refine zac qac ?_ ?_ trivial
     ·repeat' first|exact trivial|refine⟨⟨by first|rfl|assumption|exact congrArg (fun n=>AV.d (iD n)) e_c|(rw[hnx];rfl),rfl⟩,?_⟩
     ·exact qcl
  | some f =>
   rw[hf]at hidx hnx
   dsimp only at hidx hnx
   obtain⟨hf1,hf2,_,_⟩:=zek hf
   have haN:a<l.length:=qad
   have e6:iadd .i64 (a:Int) 1=((a+1:Nat):Int):=zah (b:=1) qad
   have e5:iadd .i64 (a:Int) ((f-a:Nat):Int)=(f:Int):=by rw[zah qad];congr 1;omega
   refine zgx hidx (zwq rfl han) (zjx (zjw rfl)) rfl ?_
   conv=>whnf
   repeat' first|((first|(refine LookP.mk _ (by first|rfl|exact zeu (f:=fun j=>Ps.l (rf j)) hf2|exact zeu (f:=fun j=>Ps.l (rf j)) haN|exact zb1 (x:=Ps.l (rf f)) hf2 (by split<;>rfl)) ?_)|refine ShlP.mk _ (by first|exact zf3 (x:=[_,_,_,_]) haN|exact zf3 (x:=[_,_,_,_]) hf2|rfl) ?_|refine And.intro (by first|(rw[e5];exact⟨Int.natCast_nonneg _,by omega⟩)|exact⟨Int.natCast_nonneg _,by omega⟩|assumption|exact⟨by kernel_rfl,rfl⟩|decide|omega) ?_|rw[e5]|refine HpP.force ?_);conv=>whnf)|(intro t ht;cases t<;>conv=>whnf)
   rotate_left
   ·exact qfk
   have hgv:=zsm hvr haN hf2
   have hsw:∀ j,(if j=f then [iD (rf a).w,iD (rf a).x,iD (rf a).z,iD (rf a).p] else if j=a then [iD (rf f).w,iD (rf f).x,iD (rf f).z,iD (rf f).p] else Ps.l (rf j))=Ps.l (clrR (swapF rf a f) a c 0 j):=by
    intro j
    have e:clrR (swapF rf a f) a c 0 j=swapF rf a f j:=by simp[clrR]
    rw[e]
    unfold swapF
    by_cases j1:j=f<;>by_cases j2:j=a
    ·subst j1 j2;rw[if_pos rfl,if_pos rfl];rfl
    ·rw[if_pos j1,if_neg j2,if_pos j1];rfl
    ·rw[if_neg j1,if_pos j2,if_pos j2];rfl
    ·rw[if_neg j1,if_neg j2,if_neg j2,if_neg j1]
   generalize swapF rf a f=g at hnx hgv hsw
   refine zbb pok Tryz.func191 chk191 ?_
   conv=>whnf
   repeat' first|(refine LookP.mk _ rfl ?_;conv=>whnf)
   refine zaq pok (fun k=>⟨[(1,.d (iD a)),(2,.ptr 3 1 0 0),(3,.ptr 5 2 0 0),(7,.d (iD l.length)),(8,.d (iD k))],[(0,some (.arr 2 [[.d (iD w),.d (rowsD l t)]])),(1,some (.arr 2 [[.d (iD 0),.d (.sl [] true)]])),(2,some (dblk 4 ((List.range l.length).map fun j=>(clrR g a c k j).l))),(3,some (.arr 1 [[.sl 2 4 0 l.length l.length true]])),(5,some (.arr 2 [[.d (iD (c%2:Nat)),.d (iD (c / 2:Nat))]]))],6⟩) (l.length) (fun _=>True) (trivial) ?_ qah ?_ ?_
   ·refine zac qac ?_ ?_ trivial
    ·exact qae
    ·repeat' first|exact trivial|refine⟨⟨ltB rfl,_,rfl,by first|rfl|assumption|exact congrArg some (zbm hsw),by first|exact zae rfl|exact zaa _ _ _|exact zab rfl⟩,?_⟩
   ·intro k A_k h_k I_k N_k
    have e_k:iadd .i64 (k:Int) 1=((k+1:Nat):Int):=zah qbl
    have hra:=clrR_a g a c k
    have hrk:=clrR_ge g a c k k (Nat.le_refl _)
    have hset:=@clrR_set g a c k
    have hsame:=@clrR_same g a c k
    have hh:=has192 (G:=G) c (g k)
    have hb:bitB (g k) c=(bitI (if(c:Int)%2=0 then(g k).x else(g k).z) ((c:Int) / 2)==1):=by
     unfold bitB;rw[Bool.eq_iff_iff];simp
    have ht2:=ze5 (G:=G) hw (g k) [g a] true qc3 (hgv k h_k) (by intro r hr;rw[List.mem_singleton.1 hr];exact hgv a haN)
    rw[<- hrk]at hh hb
    rw[<- hra,<- hrk]at ht2
    generalize hr:clrR g a c k=r at hra hrk hset hsame hh hb ht2
    generalize bitI (if(c:Int)%2=0 then(r k).x else(r k).z) ((c:Int) / 2)=b at hh hb
    have hm:([r a].foldl mulS (r k))=mulS (r k) (r a):=rfl
    rw[hm]at ht2
    rw[<- hra,<- hrk]at hset
    generalize mulS (r k) (r a)=m at ht2 hset
    conv=>whnf
    repeat (refine LookP.mk _ rfl ?_;conv=>whnf)
    intro t ht
    cases t
    ·exact qbh
    conv=>whnf
    repeat' first|((first|refine LookP.mk _ (by first|rfl|exact zeu (f:=fun j=>Ps.l (r j)) h_k|exact zeu (f:=fun j=>Ps.l (r j)) haN) ?_|refine ShlP.mk _ (by first|exact zf3 (x:=[_,_,_,_]) h_k|(simp only[List.set,over,List.take,List.drop,List.append_eq,List.nil_append,List.cons_append,List.length];rfl)|rfl) ?_|refine And.intro qbm ?_|refine zam hh ?_|refine zam ht2 ?_|refine HpP.force ?_);conv=>whnf)|(intro t ht;cases t<;>conv=>whnf)
    ·have hka:k=a:=by simp at ht;omega
     have e:clrR g a c (k+1)=r:=hsame fun q=>q.1 hka
     refine N_k _ ?_ ?_
     ·exact qbj
     ·refine zac qac ?_ ?_ trivial
      ·exact qaj
      ·exact qcn
    ·have e:clrR g a c (k+1)=r:=by
      refine hsame fun q=>?_
      rw[<- hrk,hb]at q
      rw[q.2]at ht;cases ht
     refine N_k _ ?_ ?_
     ·exact qbj
     ·refine zac qac ?_ ?_ trivial
      ·exact qaj
      ·exact qcn
    ·have hka:k≠a:=by intro e;subst e;simp at *
     have e:=hset hka (by rw[hb];exact ht)
     have hblk:∀ j,(if j=k then [iD m.w,iD m.x,iD m.z,iD m.p] else Ps.l (r j))=Ps.l (clrR g a c (k+1) j):=by
      intro j
      rw[e]
      dsimp only
      split<;>rfl
     refine N_k _ ?_ ?_
     ·exact qbj
     ·refine zac qac ?_ ?_ trivial
      ·exact qaj
      ·repeat' first|exact trivial|refine⟨⟨ltB rfl,_,rfl,by first|rfl|assumption|exact congrArg some (zbm hblk),by first|exact zae rfl|exact zaa _ _ _|exact zab rfl⟩,?_⟩
   ·intro A_last I_last
    conv=>whnf
    repeat (refine LookP.mk _ rfl ?_;conv=>whnf)
    intro t ht
    cases t
    rotate_left
    ·exact qbh
    conv=>whnf
    skip
    refine N_c _ ?_ ?_
    ·exact qbj
    ·refine zac qac ?_ ?_ trivial
     ·repeat' first|exact trivial|refine⟨⟨by first|rfl|assumption|exact congrArg (fun n=>AV.d (iD n)) e_c|(rw[hnx];exact congrArg (fun n=>AV.d (iD n)) e6)|(rw[hnx];rfl),rfl⟩,?_⟩
     ·exact qcl
 ·intro A_last I_last
  conv=>whnf
  repeat (refine LookP.mk _ rfl ?_;conv=>whnf)
  intro t ht
  cases t
  rotate_left
  ·exact qbh
  conv=>whnf
  repeat' first|((first|refine LookP.mk _ rfl ?_|refine ShlP.mk _ qaa ?_|refine HpP.force ?_);conv=>whnf)
  refine fin ⟨rfl,?_⟩
  have e:(redRows l (2*w)).map Ps.l=(List.range l.length).map fun j=>Ps.l ((redN l (2*w)).1 j):=by
   unfold redRows;rw[List.map_map];rfl
  rw[e];rfl
theorem zi3{w:Nat}(hw:1<=w/\w<=12)(l:List Ps)(t:Bool)(hn:l.length<=1000)(hv:∀ q,q∈l->Vl w q):PO Pr G 105 [stD w l t] (.agg [.d (iD w),.sl 0 4 0 l.length l.length true]) [(0,some (dblk 4 ((redRows l (2*w)).map Ps.l)))] 1:=by
 refine⟨za3 Tryz.func105 chk105,zaz (canon105a hw l t hn hv) ?_⟩
 rintro v H n ⟨rfl,hg⟩
 refine⟨_,_,1,?_,rfl,rfl,rfl⟩
 first|refine zav [(0,2)] ?_ ?_ ?_ trivial|refine zap [(0,2)] rfl rfl ?_ ?_ ?_ trivial
 ·exact qae
 ·exact qaz
 ·exact qaf
end Go.Tz
namespace Go.Tz
open Go Go.AL Go.Ma
def vec(q:Ps):Nat:=(nf q).2
theorem zle{w:Nat}(hw:w<=12){q:Ps}(h:Vl w q):inV w (vec q):=by
 obtain⟨X,Z,P,rfl,h1,h2,h3⟩:=h
 have hp:(2:Nat)^w<=2^12:=Nat.pow_le_pow_right qag hw
 unfold vec
 rw[zcq]
 refine zky _ fun j hj=>?_
 dsimp only
 rw[zed qad]
 split
 ·exact qdo
 ·exact qdp
theorem zuj{w:Nat}(hw:w<=12){q:Ps}(h:Vl w q):vec q<2^24:=zqj _ (U_lt hw) _ (zle hw h)
theorem zld{w:Nat}(hw:w<=12){q r:Ps}(hq:Vl w q)(hr:Vl w r):vec (mulS q r)=vec q^^^vec r:=by
 unfold vec;rw[zd1 hw hq hr];rfl
theorem zfv{w c:Nat}(hw:w<=12)(hc:c<2*w){q:Ps}(h:Vl w q):bitB q c=cb (vec q) c:=by
 obtain⟨X,Z,P,rfl,h1,h2,h3⟩:=h
 have hp:(2:Nat)^w<=2^12:=Nat.pow_le_pow_right qag hw
 unfold bitB cb pos vec bitI mk
 rw[show nf ⟨(w:Int),(X:Int),(Z:Int),(P:Int)⟩=_ from zcq w X Z P]
 dsimp only
 have e2:(c:Int) / 2=((c / 2:Nat):Int):=qad
 rw[e2]
 by_cases e:c%2=0
 ·rw[if_pos (show(c:Int)%2=0 by omega),if_pos e,zem qad qad,zed qad,if_pos (show c / 2<12 by omega)]
  cases X.testBit (c / 2)<;>simp
 ·rw[if_neg (show ¬(c:Int)%2=0 by omega),if_neg e,zem qad qad,zed qad,if_neg (show ¬ 12+c / 2<12 by omega),show 12+c / 2-12=c / 2 by omega]
  cases Z.testBit (c / 2)<;>simp
theorem rr_congr{n c a:Nat}{R R' pc:Nat->Nat}(h:RR n c a R pc)(e:∀ j,j<n->R j=R' j):RR n c a R' pc:=by
 have ha:=h.an
 refine⟨h.an,h.lt,h.mono,fun j hj=>?_,fun i j hi hj hij=>?_,fun j d hj hd=>?_,fun j d h1 h2 h3=>?_⟩
 ·rw[<- e j qad];exact h.own j hj
 ·rw[<- e i hi];exact h.other i j hi hj hij
 ·rw[<- e j qad];exact h.lead j d hj hd
 ·rw[<- e j h2];exact h.zero j d h1 h2 h3
def rfv(l:List Ps)(c j:Nat):Nat:=vec ((redN l c).1 j)
theorem zol{w:Nat}(hw:w<=12){l:List Ps}(hv:∀ q,q∈l->Vl w q){c:Nat}(hc:c<2*w) :
  (fndO (redN l c).1 l.length c (redN l c).2.2=none/\redN l (c+1)=redN l c /\ ∀ j,(redN l c).2.2<=j->j<l.length->cb (rfv l c j) c=false) ∨
  ∃ f,(redN l c).2.2<=f/\f<l.length/\(redN l (c+1)).2.2=(redN l c).2.2+1/\(redN l (c+1)).2.1=clrB (swapF (redN l c).1 (redN l c).2.2 f) (swapF (redN l c).2.1 (redN l c).2.2 f) l.length (redN l c).2.2 c l.length/\cb (rfv l c f) c=true ∧
   ∀ j,j<l.length->rfv l (c+1) j=clr (swp (rfv l c) (redN l c).2.2 f) (redN l c).2.2 c j:=by
 obtain⟨q1,q2⟩:=zeq hw hv c
 cases hf:fndO (redN l c).1 l.length c (redN l c).2.2 with
 | none =>
  refine .inl ⟨rfl,by simp only[redN,colS,hf],fun j h1 h2=>?_⟩
  have:=zmh hf j h1 h2
  rw[zfv hw hc (q1 j h2)]at this
  exact this
 | some f =>
  obtain⟨h1,h2,h3,h4⟩:=zek hf
  have han:(redN l c).2.2<l.length:=qad
  have e1:redN l (c+1)=(clrR (swapF (redN l c).1 (redN l c).2.2 f) (redN l c).2.2 c l.length,clrB (swapF (redN l c).1 (redN l c).2.2 f) (swapF (redN l c).2.1 (redN l c).2.2 f) l.length (redN l c).2.2 c l.length,(redN l c).2.2+1):=by simp only[redN,colS,hf]
  rw[zfv hw hc (q1 f h2)]at h3
  refine .inr ⟨f,h1,h2,by rw[e1],by rw[e1],h3,fun j hj=>?_⟩
  have hs:=zsm q1 han h2
  have sw:∀ j,vec (swapF (redN l c).1 (redN l c).2.2 f j)=swp (rfv l c) (redN l c).2.2 f j:=by
   intro j
   unfold swapF swp rfv
   split
   ·rfl
   ·split<;>rfl
  show vec ((redN l (c+1)).1 j)=_
  rw[e1]
  dsimp only
  unfold clrR clr
  rw[<- sw j,<- sw (redN l c).2.2,<- zfv hw hc (hs j hj)]
  by_cases e:j≠(redN l c).2.2/\bitB (swapF (redN l c).1 (redN l c).2.2 f j) c=true
  ·rw[if_pos ⟨hj,e⟩,if_pos e,zld hw (hs j hj) (hs _ han)]
  ·rw[if_neg (fun q=>e q.2),if_neg e]
theorem rfv_rr{w:Nat}(hw:w<=12){l:List Ps}(hv:∀ q,q∈l->Vl w q):∀{c:Nat},c<=2*w->∃ pc,RR l.length c (redN l c).2.2 (rfv l c) pc
 | 0,_=>⟨_,rr_zero _ _⟩
 | c+1,hc=>by
  obtain⟨pc,h⟩:=rfv_rr hw hv (c:=c) qad
  rcases zol hw hv (c:=c) qad with⟨_,h2,h3⟩|⟨f,f1,f2,f3,_,f4,f5⟩
  ·refine⟨pc,?_⟩
   have e:rfv l (c+1)=rfv l c:=by funext j;unfold rfv;rw[h2]
   rw[e,h2]
   exact rr_skip h h3
  ·refine⟨fun j=>if j=(redN l c).2.2 then c else pc j,?_⟩
   rw[f3]
   refine rr_congr (rr_clr (rr_swap h f1 f2) qad ?_) fun j hj=>(f5 j hj).symm
   unfold swp;rw[if_pos rfl];exact f4
theorem zur{n a:Nat}{R:Nat->Nat}(ha:a<n)(t:Nat->Bool)(v:Nat):spB (revl (fun j=>if j≠a/\t j=true then R j^^^R a else R j) n) v=spB (revl R n) v:=by
 have m1:∀ j,j<n->spB (revl R n) (R j)=true:=fun j hj=>zb3 _ _ (revl_mem.2 ⟨j,hj,rfl⟩)
 have m2:∀ j,j<n->spB (revl (fun j=>if j≠a/\t j=true then R j^^^R a else R j) n) (if j≠a/\t j=true then R j^^^R a else R j)=true:=fun j hj=>zb3 _ _ (revl_mem.2 ⟨j,hj,rfl⟩)
 have ma:=m2 a ha
 rw[if_neg qc3]at ma
 refine zng (fun x hx=>?_) (fun x hx=>?_) v
 ·obtain⟨j,hj,rfl⟩:=revl_mem.1 hx
  split
  ·exact zdb _ _ _ (m1 j hj) (m1 a ha)
  ·exact m1 j hj
 ·obtain⟨j,hj,rfl⟩:=revl_mem.1 hx
  have:=m2 j hj
  split at this
  ·have h2:=zdb _ _ _ this ma
   rwa [zau]at h2
  ·exact this
theorem span_swp{n a f:Nat}{R:Nat->Nat}(ha:a<n)(hf:f<n)(v:Nat):spB (revl (swp R a f) n) v=spB (revl R n) v:=by
 refine zng (fun x hx=>?_) (fun x hx=>?_) v
 ·obtain⟨j,hj,rfl⟩:=revl_mem.1 hx
  obtain⟨i,hi,e,_⟩:=zsl (f:=R) ha hf hj
  rw[e];exact zb3 _ _ (revl_mem.2 ⟨i,hi,rfl⟩)
 ·obtain⟨j,hj,rfl⟩:=revl_mem.1 hx
  by_cases e1:j=a
  ·refine zb3 _ _ (revl_mem.2 ⟨f,hf,?_⟩)
   unfold swp
   by_cases e2:f=a
   ·rw[if_pos e2,e1,e2]
   ·rw[if_neg e2,if_pos rfl,e1]
  ·by_cases e2:j=f
   ·refine zb3 _ _ (revl_mem.2 ⟨a,ha,?_⟩)
    unfold swp;rw[if_pos rfl,e2]
   ·refine zb3 _ _ (revl_mem.2 ⟨j,hj,?_⟩)
    unfold swp;rw[if_neg e1,if_neg e2]
theorem zgv{r r':Nat->Nat}:∀{n:Nat},(∀ j,j<n->r j=r' j)->revl r n=revl r' n
 | 0,_=>rfl
 | n+1,h=>by simp only[revl];rw[h n qad,zgv fun j hj=>h j qad]
theorem zgu{w:Nat}(hw:w<=12){l:List Ps}(hv:∀ q,q∈l->Vl w q)(v:Nat):∀{c:Nat},c<=2*w->spB (revl (rfv l c) l.length) v=spB (revl (rfv l 0) l.length) v
 | 0,_=>rfl
 | c+1,hc=>by
  rw[<- zgu hw hv v (c:=c) qad]
  rcases zol hw hv (c:=c) qad with⟨_,h2,h3⟩|⟨f,f1,f2,f3,_,f4,f5⟩
  ·have e:rfv l (c+1)=rfv l c:=by funext j;unfold rfv;rw[h2]
   rw[e]
  ·have ha:(redN l c).2.2<l.length:=by omega
   rw[zgv f5,<- span_swp (R:=rfv l c) ha f2 v]
   exact zur (R:=swp (rfv l c) (redN l c).2.2 f) ha (fun j=>cb (swp (rfv l c) (redN l c).2.2 f j) c) v
theorem zsw{w:Nat}(hw:w<=12){l:List Ps}(hv:∀ q,q∈l->Vl w q):∃ pc,RR l.length (2*w) (redN l (2*w)).2.2 (rfv l (2*w)) pc/\Piv l.length (rfv l (2*w)) (fun i=>pos (pc i)) fun i=>decide (i<(redN l (2*w)).2.2):=by
 obtain⟨pc,h⟩:=rfv_rr hw hv (Nat.le_refl _)
 exact⟨pc,h,rr_piv h fun j hj hz=>cb_zero hw (zle hw ((zeq hw hv _).1 j hj)) hz⟩
def rwv(l:List Ps)(m j:Nat):Nat:=(redW (rowN l) m j).1
theorem rwv_0(l:List Ps){j:Nat}(hj:j<l.length):rwv l 0 j=rfv l 0 j:=by
 unfold rwv rfv
 have h2:j<(rowN l).length:=by rw[zgt];exact hj
 simp only[redW,redN,List.getD_eq_getElem?_getD,List.getElem?_eq_getElem hj,List.getElem?_eq_getElem h2,Option.getD_some]
 simp[rowN,vec]
theorem zuv(l:List Ps)(m:Nat):rwv l (m+1)=if rwv l m m≠0 then(fun k=>if k<(rowN l).length/\k≠m/\(rwv l m k).testBit (lowN (rwv l m m))=true then rwv l m k^^^rwv l m m else rwv l m k) else rwv l m:=by
 funext k
 unfold rwv
 simp only[redW]
 split
 ·unfold clrW
  dsimp only
  split<;>rfl
 ·rfl
theorem zoj{w:Nat}(hw:w<=12){l:List Ps}(hv:∀ q,q∈l->Vl w q)(hn:l.length<=24)(v:Nat):∀{m:Nat},m<=l.length->spB (revl (rwv l m) l.length) v=spB (revl (rfv l 0) l.length) v
 | 0,_=>by rw[zgv fun j hj=>rwv_0 l hj]
 | m+1,hm=>by
  rw[<- zoj hw hv hn v (m:=m) qad,zuv]
  split
  ·rw[<- zur (R:=rwv l m) (a:=m) qad (fun k=>(rwv l m k).testBit (lowN (rwv l m m))) v]
   congr 1
   refine zgv fun j hj=>?_
   have:j<(rowN l).length:=by rw[zgt];exact hj
   simp only[this,true_and]
  ·rfl
theorem rwv_piv{w:Nat}(hw:w<=12){l:List Ps}(hv:∀ q,q∈l->Vl w q)(hn:l.length<=24):∀{m:Nat},m<=l.length->∃ p:Nat->Nat,(∀ j,j<m->rwv l m j≠0->(rwv l m j).testBit (p j)=true) /\ ∀ i j,i<l.length->j<m->i≠j->rwv l m j≠0->(rwv l m i).testBit (p j)=false
 | 0,_=>⟨fun _=>0,by omega,by omega⟩
 | m+1,hm=>by
  obtain⟨p,h1,h2⟩:=rwv_piv hw hv hn (m:=m) qad
  have hlt:=zht (zlq hw hv hn) m
  rw[zuv]
  by_cases h0:rwv l m m≠0
  ·rw[if_pos h0]
   obtain⟨hl,hb,_⟩:=zg0 h0 (hlt m).1
   generalize lowN (rwv l m m)=b at hl hb
   have hmj:∀ j,j<m->rwv l m j≠0->(rwv l m m).testBit (p j)=false:=fun j hj hz=>h2 m j qad hj qad hz
   have nz:∀ j,j<m->(if j<(rowN l).length/\j≠m/\(rwv l m j).testBit b=true then rwv l m j^^^rwv l m m else rwv l m j)≠0->rwv l m j≠0:=by
    intro j hj h e
    rw[e]at h
    simp at h
   refine⟨fun j=>if j=m then b else p j,fun j hj hz=>?_,fun i j hi hj hij hz=>?_⟩
   ·dsimp only at hz⊢
    by_cases e:j=m
    ·subst e
     rw[if_pos rfl,if_neg qc3];exact hb
    ·rw[if_neg e]
     have hj':j<m:=qad
     have hz':=nz j hj' hz
     split
     ·rw[Nat.testBit_xor,h1 j hj' hz',hmj j hj' hz'];rfl
     ·exact h1 j hj' hz'
   ·dsimp only at hz⊢
    have hil:i<(rowN l).length:=by rw[zgt];exact hi
    by_cases e:j=m
    ·subst e
     rw[if_pos rfl]
     by_cases c:(rwv l j i).testBit b=true
     ·rw[if_pos ⟨hil,hij,c⟩,Nat.testBit_xor,c,hb];rfl
     ·rw[if_neg fun q=>c q.2.2];simpa using c
    ·rw[if_neg e]
     have hj':j<m:=qad
     have hz':=nz j hj' hz
     split
     ·rw[Nat.testBit_xor,h2 i j hi hj' hij hz',hmj j hj' hz'];rfl
     ·exact h2 i j hi hj' hij hz'
  ·rw[if_neg h0]
   simp only[ne_eq,Decidable.not_not]at h0
   refine⟨p,fun j hj hz=>?_,fun i j hi hj hij hz=>?_⟩
   ·exact h1 j qc5 hz
   ·exact h2 i j hi qc5 hij hz
theorem rwv_Piv{w:Nat}(hw:w<=12){l:List Ps}(hv:∀ q,q∈l->Vl w q)(hn:l.length<=24):∃ p,Piv l.length (rwv l l.length) p fun i=>decide (rwv l l.length i≠0):=by
 obtain⟨p,h1,h2⟩:=rwv_piv hw hv hn (Nat.le_refl _)
 exact⟨p,fun i hi ha=>h1 i hi qb8,fun i j hi hj hij ha=>h2 i j hi hj hij qb8,fun i _ ha=>by simpa using ha⟩
theorem lead_nz{w:Nat}(hw:w<=12){q:Ps}(h:Vl w q):0<=leadI q ↔ vec q≠0:=by
 have hww:=vl_w h
 have key:∀ f k,k+f=2*w->(0<=leadF q f k ↔ ∃ d,k<=d/\d<2*w/\bitB q d=true):=by
  intro f
  induction f with
  | zero =>
   intro k hk
   constructor
   ·intro h;simp[leadF]at h
   ·rintro⟨d,h1,h2,_⟩;omega
  | succ f ih =>
   intro k hk
   simp only[leadF]
   by_cases hb:bitB q k=true
   ·rw[if_pos hb]
    exact⟨fun _=>⟨k,Nat.le_refl _,by omega,hb⟩,fun _=>by omega⟩
   ·rw[if_neg hb,ih (k+1) qad]
    constructor
    ·rintro⟨d,h1,h2,h3⟩;exact⟨d,by omega,h2,h3⟩
    ·rintro⟨d,h1,h2,h3⟩
     refine⟨d,?_,h2,h3⟩
     rcases Nat.lt_or_ge k d with e|e
     ·exact qad
     ·have:d=k:=by omega
      subst this;exact absurd h3 hb
 unfold leadI
 rw[hww,Int.toNat_natCast,key _ 0 qad]
 constructor
 ·rintro⟨d,_,h2,h3⟩ e
  rw[zfv hw h2 h,e]at h3
  simp[cb]at h3
 ·intro hz
  refine Classical.byContradiction fun hn=>hz (cb_zero hw (zle hw h) fun d hd=>?_)
  rw[<- zfv hw hd h]
  cases e:bitB q d with
  | false=>rfl
  | true=>exact absurd ⟨d,Nat.zero_le _,hd,e⟩ hn
theorem zn0{act:Nat->Bool}:∀ n,Ma.cnt act n=(List.range n).countP act
 | 0=>rfl
 | n+1=>by
  rw[List.range_succ,List.countP_append,<- zn0 n]
  simp only[Ma.cnt,List.countP_singleton]
  cases act n<;>rfl
theorem zs0{w:Nat}(hw:w<=12){l:List Ps}(hv:∀ q,q∈l->Vl w q):rankN (redRows l (2*w))=rk (revl (rfv l 0) l.length):=by
 obtain⟨pc,h1,h2⟩:=zsw hw hv
 have hb:∀ c,∀ a,a∈revl (rfv l c) l.length->a<2^24:=by
  intro c a ha
  obtain⟨j,hj,rfl⟩:=revl_mem.1 ha
  exact zuj hw ((zeq hw hv c).1 j hj)
 have e1:=zxg (hb (2*w)) (hb 0) fun v=>zgu hw hv v (Nat.le_refl _)
 rw[<- e1,rk_piv h2]
 unfold rankN redRows
 rw[List.countP_map,zn0]
 refine List.countP_congr fun j hj=>?_
 have hjn:=List.mem_range.1 hj
 have hvl:=(zeq hw hv (2*w)).1 j hjn
 simp only[Function.comp,decide_eq_true_eq]
 rw[lead_nz hw hvl]
 constructor
 ·intro hz
  refine Classical.byContradiction fun hn=>hz (h2.zero j hjn qd8)
 ·intro hlt e
  have:=h2.own j hjn (by simpa using hlt)
  rw[show rfv l (2*w) j=0 from e]at this
  simp at this
theorem gone_rk{w:Nat}(hw:w<=12){l:List Ps}(hv:∀ q,q∈l->Vl w q)(hn:l.length<=24):(gnW (redF l) l.length).length=0 ↔ rk (revl (rfv l 0) l.length)=l.length:=by
 obtain⟨p,h2⟩:=rwv_Piv hw hv hn
 have hb:∀ a,a∈revl (rfv l 0) l.length->a<2^24:=by
  intro a ha
  obtain⟨j,hj,rfl⟩:=revl_mem.1 ha
  exact zuj hw ((zeq hw hv 0).1 j hj)
 have hb2:∀ a,a∈revl (rwv l l.length) l.length->a<2^24:=by
  intro a ha
  obtain⟨j,hj,rfl⟩:=revl_mem.1 ha
  exact(zht (zlq hw hv hn) _ j).1
 have e1:=zxg hb2 hb fun v=>zoj hw hv hn v (Nat.le_refl _)
 rw[<- e1,rk_piv h2,zty]
 unfold gnW redF
 rw[List.length_eq_zero_iff,List.filter_eq_nil_iff]
 constructor
 ·intro h i hi
  have:=h _ (List.mem_map.2 ⟨i,List.mem_range.2 hi,rfl⟩)
  exact decide_eq_true (by simpa[rwv] using this)
 ·intro h r hr
  obtain⟨i,hi,rfl⟩:=List.mem_map.1 hr
  have:=of_decide_eq_true (h i (List.mem_range.1 hi))
  simpa[rwv] using this
theorem zmb{w:Nat}(hw:w<=12){l:List Ps}(hv:∀ q,q∈l->Vl w q)(hn:l.length<=24):(gnW (redF l) l.length).length=0 ↔ rankN (redRows l (2*w))=l.length:=by
 rw[gone_rk hw hv hn,zs0 hw hv]
end Go.Tz
namespace Go.Tz
open Go Go.AL Go.Proofs
def zeroS(w:Nat):List Ps:=(List.range w).map fun i=>⟨w,0,((2^i:Nat):Int),0⟩
def zD(w:Nat):D:=.tup [stD w (zeroS w) false,iD 0]
end Go.Tz
namespace Go.Tz
open Go Go.AL Go.Proofs
variable{G:Nat->Option (List D)}
def badAt(l:List Ps)(i:Nat):Bool:=match l[i]? with
 | some q=>decide (q.p.tmod 2≠0)||(l.take i).any fun r=>decide (mulS q r≠mulS r q)
 | none=>false
def badS(l:List Ps):Bool:=(List.range l.length).any (badAt l)
def chkS(w:Int)(l:List Ps):Int :=
 if offB w 1 12 then 3 else if(l.length:Int)≠w then 2 else match l.find? fun q=>decide (pchkI q≠0) with
 | some q=>pchkI q
 | none=>if l.any fun q=>decide (q.w≠w) then 7 else if badS l then 14 else if rankN (redRows l (2*w.toNat))=l.length then 0 else 14
theorem find_at{l:List Ps}{p:Ps->Bool}{i:Nat}(h:i<l.length)(hz:∀ q,q∈l.take i->p q=false)(hp:p l[i]=true):l.find? p=some l[i]:=by
 have e:(l.take i++l[i]::l.drop (i+1)).find? p=some l[i]:=by
  rw[List.find?_append,List.find?_eq_none.2 (by intro q hq;simp[hz q hq]),List.find?_cons_of_pos hp];rfl
 have e2:l.take i++l[i]::l.drop (i+1)=l:=by rw[List.getElem_cons_drop,List.take_append_drop]
 rw[e2]at e
 exact e
theorem badAt_lt{l:List Ps}{i:Nat}(h:i<l.length):badAt l i=(decide (l[i].p.tmod 2≠0)||(l.take i).any fun r=>decide (mulS l[i] r≠mulS r l[i])):=by
 unfold badAt;rw[List.getElem?_eq_getElem h]
theorem badS_of{l:List Ps}{i:Nat}(h:i<l.length)(hb:badAt l i=true):badS l=true:=List.any_eq_true.2 ⟨i,List.mem_range.2 h,hb⟩
end Go.Tz
namespace Go.Tz
open Go Go.AL Go.Proofs
variable{G:Nat->Option (List D)}
def prodS(w:Int)(l:List Ps):Ps:=l.foldl mulS ⟨w,0,0,0⟩
theorem zxn(w:Int)(l:List Ps)(q:Ps):prodS w (l++[q])=mulS (prodS w l) q:=by simp[prodS]
end Go.Tz
namespace Go.Tz
open Go Go.AL Go.Proofs Go.Ma
variable{G:Nat->Option (List D)}
theorem zos(q:Ps):pckI q=pchkI q:=by
 unfold pckI pchkI offB
 have d0:(decide (q.w<1)||decide (q.w>12))=decide (q.w<1\/q.w>12):=by
  rw[Bool.eq_iff_iff];simp
 rw[d0]
 simp only[decide_eq_true_eq]
 by_cases h1:q.w<1\/q.w>12
 ·rw[if_pos h1,if_pos h1]
 ·rw[if_neg h1,if_neg h1]
  obtain⟨w,hw⟩:∃ w:Nat,q.w=w:=⟨q.w.toNat,by omega⟩
  have hw12:1<=w/\w<=12:=qad
  rw[hw,zcg qad]
  have hp:(2:Nat)^w<=2^12:=Nat.pow_le_pow_right qag hw12.2
  have hp0:0<(2:Nat)^w:=Nat.two_pow_pos w
  have e:isub .i64 ((2^w:Nat):Int) 1=((2^w-1:Nat):Int):=zkw (b:=1) qad qad
  rw[e]
  generalize 2^w=p at hp hp0
  have e1:(decide (q.x<0)||decide (q.x>((p-1:Nat):Int))||(decide (q.z<0)||decide (q.z>((p-1:Nat):Int))))=decide (q.x<0\/q.z<0\/q.x>=(p:Int)\/q.z>=(p:Int)):=by
   rw[Bool.eq_iff_iff];simp;omega
  have e2:(decide (q.p<0)||decide (q.p>3))=decide (q.p<0\/q.p>3):=by
   rw[Bool.eq_iff_iff];simp
  rw[e1,e2]
  simp only[decide_eq_true_eq]
theorem vl_of{w:Nat}{q:Ps}(h:pchkI q=0)(hw:q.w=w):Vl w q:=by
 rw[<- zos]at h
 unfold pckI at h
 split at h
 ·exact qed
 rename_i h1
 split at h
 ·exact qed
 rename_i h2
 split at h
 ·exact qed
 rename_i h3
 rw[hw]at h1 h2
 rw[zcg qad]at h2
 refine⟨q.x.toNat,q.z.toNat,q.p.toNat,?_,by omega,by omega,by omega⟩
 obtain⟨a,b,c,d⟩:=q
 simp only at hw h2 h3
 subst hw
 unfold mk
 simp only[Ps.mk.injEq,true_and]
 omega
theorem zrz{α:Type}{p q:α->Bool}:∀{l:List α},(∀ a,a∈l->p a=q a)->l.any p=l.any q
 | [],_=>rfl
 | a::l,h=>by
  rw[List.any_cons,List.any_cons,h a qc3,zrz fun b hb=>h b (List.mem_cons_of_mem _ hb)]
theorem chk114:chkFn Tryz.f114=true:=qah
theorem zlb{w:Nat}(hw:1<=w/\w<=12){q r:Ps}(hq:Vl w q)(hr:Vl w r):PC Pr G 114 [.agg q.l,r.d] (.bool (comV q r)):=by
 have hc:=zxz (G:=G) hw hq hr
 refine zai pok Tryz.func114 chk114 ?_
 conv=>whnf
 repeat' first|((first|refine LookP.mk _ rfl ?_|refine zak hc ?_);conv=>whnf)
 exact fin rfl
theorem chk113:chkFn Tryz.f113=true:=qah
theorem wire113(q:Ps)(w:Int)(l:List Ps)(t:Bool):PC Pr G 113 [q.d,.rop [iD w,rowsD l t] 0] (.bool (decide (q.w=w))):=by
 refine zai pok Tryz.func113 chk113 ?_
 conv=>whnf
 repeat' first|(refine LookP.mk _ rfl ?_;conv=>whnf)|(intro t ht;cases t<;>conv=>whnf)
 all_goals
  refine fin ?_
  have e:(q.w==w)=decide (q.w=w):=by rw[Bool.eq_iff_iff];simp
  rw[<- e,ht]
theorem use_rows{f:FuncId}{m:List Ps}{x:List (List D)}{t0:Bool}{d2:D}{b:Bool}{H:AHeap}{nx:Nat}{k:AV->AHeap->Nat->Prop}(h:∀ t',PC Pr G f [rowsD m t',d2] (.bool b))(e:x=m.map Ps.l)(hk:∀ t,b=t->k (.d (.bool t)) H nx):CallVC Pr G f [.d (.sl x t0),.d d2] H nx k:=by
 subst e;exact zhw (h t0) hk
theorem zyy(l:List Ps)(i:Nat):List.take ((i:Int).toNat-0) (List.drop 0 (List.map Ps.l l))=(l.take i).map Ps.l:=by
 rw[Int.toNat_natCast,Nat.sub_zero,List.drop_zero,List.map_take]
theorem chk36:chkFn Tryz.f36=true:=qah
theorem zt3(w:Int)(l:List Ps)(t:Bool)(hn:l.length<=1000):PC Pr GG 36 [stD w l t] (iD (chkS w l)):=by
 have hev:=zwa (G:=GG) l t 113 [] [.rop [iD w,rowsD l t] 0] (fun q=>decide (q.w=w)) hn fun q _=>wire113 q w l t
 refine zai pok Tryz.func36 chk36 ?_
 conv=>whnf
 repeat' first|(refine LookP.mk _ rfl ?_;conv=>whnf)|(intro t ht;cases t<;>conv=>whnf)
 ·have ho:offB w 1 12=false:=by simp at *;unfold offB;simp;omega
  have hw:(l.length:Int)=w:=by simp at *;omega
  have how:1<=w/\w<=12:=by simp[offB]at ho;omega
  refine zaq pok (fun i=>⟨[(1,.ptr 0 2 0 0),(28,.d (rowsD l t)),(29,.d (iD (l.map Ps.l).length)),(30,.d (iD i))],[(0,some (.arr 2 [[.d (iD w),.d (rowsD l t)]]))],1⟩) (l.length) (fun i=>∀ q,q∈l.take i->pchkI q=0) qc3 ?_ qah ?_ ?_
  ·exact qf2
  ·intro i A_i h_i I_i N_i
   have e_i:iadd .i64 (i:Int) 1=((i+1:Nat):Int):=zah qbl
   have hc:=zg7 (G:=GG) l[i]
   rw[zos]at hc
   have hfa:=find_at (p:=fun q=>decide (pchkI q≠0)) h_i (fun q hq=>by simp[I_i q hq])
   have hst:∀{e},pchkI l[i]=e->e=0->∀ q,q∈l.take (i+1)->pchkI q=0:=by
    intro e h1 h2 q hq
    rw[zbe h_i]at hq
    rcases List.mem_append.1 hq with h|h
    ·exact I_i q h
    ·rw[List.mem_singleton.1 h,h1,h2]
   have hch:pchkI l[i]≠0->chkS w l=pchkI l[i]:=by
    intro h
    unfold chkS
    rw[ho,if_neg qc3,if_neg (by simpa using hw),hfa qa6]
   generalize hpe:pchkI l[i]=e at hc hch
   conv=>whnf
   repeat (refine LookP.mk _ rfl ?_;conv=>whnf)
   intro t ht
   cases t
   ·exact qbh
   conv=>whnf
   repeat' first|((first|refine LookP.mk _ qb5 ?_|refine ShlP.mk _ qaa ?_|refine And.intro qbi ?_|refine zak hc ?_|refine HpP.force ?_);conv=>whnf)|(intro t ht;cases t<;>conv=>whnf)
   ·refine N_i _ ?_ ?_
    ·exact hst hpe qb3
    ·exact qf3
   ·refine fin ?_
    rw[hch qb3]
  ·intro A_last I_last
   rw[List.take_length]at I_last
   conv=>whnf
   repeat (refine LookP.mk _ rfl ?_;conv=>whnf)
   intro t ht
   cases t
   rotate_left
   ·exact qbh
   conv=>whnf
   have hfi:l.find? (fun q=>decide (pchkI q≠0))=none:=List.find?_eq_none.2 (by
    intro q hq;simp[I_last q hq])
   repeat' first|(refine LookP.mk _ rfl ?_;conv=>whnf)|(refine zb4 hev rfl ?_)|(intro t ht;cases t<;>conv=>whnf)
   ·refine fin ?_
    have hni:l.any (fun q=>decide (q.w≠w))=true:=by
     obtain⟨q,hq,h⟩:=List.all_eq_false.1 ht
     exact List.any_eq_true.2 ⟨q,hq,by simpa using h⟩
    unfold chkS
    rw[ho,if_neg qc3,if_neg (by simpa using hw),hfi]
    dsimp only
    rw[hni,if_pos rfl]
   ·have hal:=ht
    have hws:∀ q,q∈l->q.w=w:=fun q hq=>by have:=List.all_eq_true.1 hal q hq;simpa using this
    obtain⟨W,rfl⟩:∃ W:Nat,w=W:=⟨w.toNat,by omega⟩
    have hW:1<=W/\W<=12:=qad
    have hv:∀ q,q∈l->Vl W q:=fun q hq=>vl_of (I_last q hq) (hws q hq)
    have hni:l.any (fun q=>decide (q.w≠W))=false:=List.any_eq_false.2 (by intro q hq;simp[hws q hq])
    have hchk:chkS W l=if badS l then 14 else if rankN (redRows l (2*W))=l.length then 0 else 14:=by
     unfold chkS
     rw[ho,if_neg qc3,if_neg (by simpa using hw),hfi]
     dsimp only
     rw[hni,if_neg qc3,Int.toNat_natCast]
    refine zaq pok (fun i=>⟨[(1,.ptr 0 2 0 0),(46,.d (rowsD l t)),(47,.d (iD (l.map Ps.l).length)),(48,.d (iD i))],[(0,some (.arr 2 [[.d (iD W),.d (rowsD l t)]]))],1⟩) (l.length) (fun i=>∀ j,j<i->badAt l j=false) qad ?_ qah ?_ ?_
    ·exact qf2
    ·intro i A_i h_i I_i N_i
     have e_i:iadd .i64 (i:Int) 1=((i+1:Nat):Int):=zah qbl
     have hvi:=hv _ (List.getElem_mem h_i)
     have hev2:∀ t',PC Pr GG 112 [rowsD (l.take i) t',.fn 114 [.agg l[i].l] []] (.bool ((l.take i).all (comV l[i]))):=fun t' =>
      zwa (l.take i) t' 114 [.agg l[i].l] [] (comV l[i]) qbu fun q hq=>zlb hW hvi (hv q (List.mem_of_mem_take hq))
     have hba:badAt l i=(decide (l[i].p.tmod 2≠0) || !(l.take i).all (comV l[i])):=by
      rw[badAt_lt h_i]
      congr 1
      rw[List.not_all_eq_any_not]
      refine zrz fun q hq=>?_
      have:=com_mul hW.2 hvi (hv q (List.mem_of_mem_take hq))
      rw[<- this];simp
     have hp2:l[i].p.tmod 2=0\/l[i].p.tmod 2=1:=by
      obtain⟨X,Z,P,he,g1,g2,g3⟩:=hvi
      rw[he]
      show(P:Int).tmod 2=0\/(P:Int).tmod 2=1
      rw[Int.tmod_eq_emod_of_nonneg qad];omega
     conv=>whnf
     repeat (refine LookP.mk _ rfl ?_;conv=>whnf)
     intro t ht
     cases t
     ·exact qbh
     conv=>whnf
     repeat' first|((first|refine LookP.mk _ qb5 ?_|refine ShlP.mk _ qaa ?_|refine And.intro (by first|exact⟨Nat.zero_le _,by rw[Int.toNat_natCast,List.length_map];omega,zkl _⟩|assumption|exact⟨by kernel_rfl,rfl⟩|decide|omega) ?_|refine use_rows hev2 (zyy l i) ?_|refine HpP.force ?_);conv=>whnf)|(intro t ht;cases t<;>conv=>whnf)
     ·refine fin ?_
      rw[hchk,if_pos (badS_of h_i (by rw[hba,ht];simp))]
     ·have hz:l[i].p.tmod 2=0:=by
       rcases hp2 with h|h
       ·exact h
       ·exfalso;simp_all
      have hbz:badAt l i=false:=by rw[hba,ht,hz];rfl
      refine N_i _ ?_ ?_
      ·(intro j hj;rcases Nat.lt_or_ge j i with h|h;exact I_i j h;rw[show j=i by omega];exact hbz)
      ·exact qf3
     ·refine fin ?_
      rw[hchk,if_pos (badS_of h_i (by rw[hba];have:l[i].p.tmod 2=1:=qb3;simp[this]))]
    ·intro A_last I_last
     have hb:badS l=false:=List.any_eq_false.2 (by intro j hj;rw[I_last j (List.mem_range.1 hj)];simp)
     rw[hb,if_neg qc3]at hchk
     have hin:=ind115 hW l t qad qad hv
     have hie:=zmb hW.2 hv qad
     generalize (gnW (redF l) l.length).length=gl at hin hie
     conv=>whnf
     repeat (refine LookP.mk _ rfl ?_;conv=>whnf)
     intro t ht
     cases t
     rotate_left
     ·exact qbh
     conv=>whnf
     repeat' first|(refine LookP.mk _ rfl ?_;conv=>whnf)|(refine pc_useB2 (hin) ?_)|(intro t ht;cases t<;>conv=>whnf)
     ·refine fin ?_
      rw[hchk,if_neg fun h=>by simp at ht;exact ht (hie.2 h)]
     ·refine fin ?_
      rw[hchk,if_pos (hie.1 qb3)]
 ·refine fin ?_
  have ho:offB w 1 12=false:=by simp at *;unfold offB;simp;omega
  unfold chkS
  rw[ho,if_neg qc3,if_pos qb3]
 ·exact qhk
 ·exact qhk
end Go.Tz
namespace Go.Tz
open Go Go.AL Go.Proofs Go.Ma
variable{G:Nat->Option (List D)}
structure SOk (w:Nat) (l:List Ps):Prop where
 lo:1<=w
 hi:w<=12
 len:l.length=w
 vl:∀ q,q∈l->Vl w q
 good:badS l=false
 rank:rankN (redRows l (2*w))=l.length
theorem chk_ok{w:Int}{l:List Ps}(h:chkS w l=0):∃ W:Nat,w=W/\SOk W l:=by
 unfold chkS at h
 split at h
 ·exact qed
 rename_i ho
 split at h
 ·exact qed
 rename_i hl
 split at h
 ·rename_i q hf
  have:=List.find?_some hf
  simp at this
  exact absurd h this
 rename_i hf
 split at h
 ·exact qed
 rename_i hw
 split at h
 ·exact qed
 rename_i hb
 split at h
 ·rename_i hr
  have ho':1<=w/\w<=12:=by simp[offB]at ho;omega
  obtain⟨W,rfl⟩:∃ W:Nat,w=W:=⟨w.toNat,by omega⟩
  rw[Int.toNat_natCast]at hr
  refine⟨W,rfl,by omega,by omega,by simp at hl;omega,fun q hq=>?_,by simpa using hb,hr⟩
  have h1:=List.find?_eq_none.1 hf q hq
  have h2:q.w=W:=by
   have:=hw
   simp only[List.any_eq_true,not_exists]at this
   have:=this q
   simp[hq]at this
   exact this
  exact vl_of qcz h2
 ·exact qed
theorem ok_chk{w:Nat}{l:List Ps}(h:SOk w l):chkS w l=0:=by
 have hlo:=h.lo
 have hhi:=h.hi
 have e1:offB (w:Int) 1 12=false:=by unfold offB;simp;omega
 have e2:l.find? (fun q=>decide (pchkI q≠0))=none:=List.find?_eq_none.2 fun q hq=>by
  rw[<- zos,znp ⟨hlo,hhi⟩ (h.vl q hq)];simp
 have e3:l.any (fun q=>decide (q.w≠w))=false:=List.any_eq_false.2 fun q hq=>by simp[vl_w (h.vl q hq)]
 unfold chkS
 rw[e1,if_neg qc3,if_neg (by simp[h.len]),e2]
 dsimp only
 rw[e3,if_neg qc3,h.good,if_neg qc3,Int.toNat_natCast,if_pos h.rank]
def z110D(w:Nat):D:=stD w (zeroS w) false
noncomputable def zyb(w:Nat):Bool:=match rn 110 [iD w] with
 | some d=>dB d (z110D w)
 | none=>false
theorem zero110{w:Nat}(h1:1<=w)(h2:w<=12):PC Pr GG 110 [iD w] (z110D w):=by
 have h:((List.range 12).all fun i=>zyb (i+1))=true:=qah
 have:=List.all_eq_true.1 h (w-1) (List.mem_range.2 qad)
 rw[show w-1+1=w by omega]at this
 unfold zyb at this
 split at this
 ·rename_i d hd
  rw[<- dB_eq _ _ this]
  exact zkj hd
 ·cases this
theorem chk35:chkFn Tryz.f35=true:=qah
theorem zero35{w:Nat}(h1:1<=w)(h2:w<=12):PC Pr GG 35 [iD w] (zD w):=by
 have hz:=zero110 h1 h2
 unfold z110D at hz
 unfold zD
 generalize zeroS w=m at hz⊢
 refine zai pok Tryz.func35 chk35 ?_
 conv=>whnf
 repeat' first|((first|refine LookP.mk _ rfl ?_|refine ShlP.mk _ qaa ?_|refine zak hz ?_|refine HpP.force ?_);conv=>whnf)|(intro t ht;cases t<;>conv=>whnf)
 ·exact fin rfl
 ·exact qbw
 ·exact qbw
theorem chk107:chkFn Tryz.f107=true:=qah
def expP(l:List Ps)(p:Ps):Int:=if(fndS (lfW (redF l) l.length) (nf p).2 (lfW (redF l) l.length).length).1=0 then isub .i64 1 ((iadd .i64 (isub .i64 p.p (allS p.w l (fndS (lfW (redF l) l.length) (nf p).2 (lfW (redF l) l.length).length).2 l.length).p) 4).tmod 4) else 0
theorem zfs{w:Nat}{l:List Ps}(hs:SOk w l)(t:Bool){p:Ps}(hp:Vl w p):PC Pr GG 107 [stD w l t,p.d] (iD (expP l p)):=by
 have hlo:=hs.lo
 have hhi:=hs.hi
 have hlen:=hs.len
 have hg:gnW (redF l) l.length=[]:=by
  have:=(zmb hhi hs.vl qad).2 hs.rank
  exact List.length_eq_zero_iff.1 this
 have hf:=find194 ⟨hlo,hhi⟩ l t p qad qad hs.vl hp hg
 unfold fndD at hf
 unfold expP
 generalize fndS (lfW (redF l) l.length) (nf p).2 (lfW (redF l) l.length).length=a at hf⊢
 generalize (iadd .i64 (isub .i64 p.p (allS p.w l a.2 l.length).p) 4).tmod 4=n at hf⊢
 by_cases h:a.1=0
 ·rw[if_pos h]at hf⊢
  refine zai pok Tryz.func107 chk107 ?_
  conv=>whnf
  repeat' first|((first|refine LookP.mk _ rfl ?_|refine zak hf ?_);conv=>whnf)|(intro t ht;cases t<;>conv=>whnf)
  ·exact fin rfl
  ·exact qcx
 ·rw[if_neg h]at hf⊢
  refine zai pok Tryz.func107 chk107 ?_
  conv=>whnf
  repeat' first|((first|refine LookP.mk _ rfl ?_|refine zak hf ?_);conv=>whnf)|(intro t ht;cases t<;>conv=>whnf)
  ·exact qcx
  ·exact fin rfl
end Go.Tz
namespace Go.Tz
open Go Go.AL Go.Proofs Go.Ma
variable{G:Nat->Option (List D)}
theorem chk95:chkFn Tryz.f95=true:=qah
abbrev wkB(w N:Nat):Blk:=.arr 3 [[.d (iD w),.sl 1 4 0 N N true,.fn 136 [.ptr 0 3 0 0] []]]
theorem zov{w:Nat}(hw:1<=w/\w<=12)(l:List Ps)(t:Bool)(hn:l.length<=1000)(hv:∀ q,q∈l->Vl w q):PO Pr G 95 [stD w l t] (.ptr 0 3 0 0) [(0,some (wkB w l.length)),(1,some (dblk 4 ((redRows l (2*w)).map Ps.l)))] 2:=by
 have hc:=zi3 (G:=G) hw l t hn hv
 generalize redRows l (2*w)=m at hc⊢
 refine⟨za3 Tryz.func95 chk95,zaz (K:=fun v H _=>v = .ptr 2 3 0 0/\H.get 2=some (.arr 3 [[.d (iD w),.sl 1 4 0 l.length l.length true,.fn 136 [.ptr 2 3 0 0] []]])/\H.get 1=some (dblk 4 (m.map Ps.l))) (za4 pok Tryz.func95 chk95 ?_) ?_⟩
 ·conv=>whnf
  repeat' first|((first|refine LookP.mk _ rfl ?_|refine ShlP.mk _ qaa ?_|refine zlx hc ?_|refine HpP.force ?_);conv=>whnf)
  refine fin ⟨rfl,rfl,?_⟩
  show some (Blk.ren _ (dblk 4 (m.map Ps.l)))=_
  rw[zbf]
 ·rintro v H n ⟨rfl,h1,h2⟩
  refine⟨_,_,2,?_,rfl,rfl,rfl⟩
  first|refine zav [(0,2),(1,1)] ?_ ?_ ?_ trivial|refine zap [(0,2),(1,1)] rfl rfl ?_ ?_ ?_ trivial
  ·exact qae
  ·repeat' first|exact trivial|refine⟨⟨ltB rfl,_,rfl,by first|rfl|assumption|exact zag rfl (by first|rfl|assumption|exact h1|exact zag rfl h2)|exact h1|exact zag rfl h2,by first|exact zae rfl|exact zaa _ _ _|exact zab rfl⟩,?_⟩
  ·exact qaf
theorem zwk:chkFn Tryz.f195=true:=qah
theorem zwj:chkFn Tryz.f247=true:=qah
theorem chk185:chkFn Tryz.f185=true:=qah
theorem chk242:chkFn Tryz.f242=true:=qah
def rangeAt:Code->Option (Code×Code)
 | .seq c d=>match rangeAt c with
  | some p=>some p
  | none=>rangeAt d
 | .block _ c=>rangeAt c
 | .rangeFunc _ _ a b=>some (a,b)
 | _=>none
noncomputable def rgA(f:Func):Code:=match f.body with
 | some c=>(match rangeAt c with
  | some p=>p.1
  | none=>.skip)
 | none=>.skip
noncomputable def rgB(f:Func):Code:=match f.body with
 | some c=>(match rangeAt c with
  | some p=>p.2
  | none=>.skip)
 | none=>.skip
def antL(p:Ps)(rf:Nat->Ps)(i:Nat):List Nat:=(List.range i).filter fun j=>!comV p (rf j)
def numD(l:List Nat):List (List D):=l.map fun n:Nat=>[iD (n:Int)]
def prjR(rf:Nat->Ps)(a0:Nat)(R:List Nat):Nat->Ps:=fun j=>if j∈R then mulS (rf j) (rf a0) else rf j
def prjF(rf:Nat->Ps)(p:Ps)(a0:Nat)(R:List Nat):Nat->Ps:=fun j=>if j=a0 then p else prjR rf a0 R j
end Go.Tz
namespace Go.Tz
open Go Go.AL Go.Proofs Go.Ma
variable{G:Nat->Option (List D)}
theorem mapO_d(H:AHeap)(q:Nat)(vis:List Nat):∀ l:List D,mapO (asDX H (q+1) vis) (l.map AV.d)=some l
 | []=>rfl
 | d::l=>by
  have e:asDX H (q+1) vis (.d d)=some d:=rfl
  simp only[List.map_cons,mapO,e,mapO_d H q vis l]
theorem mapO_dd(H:AHeap)(q:Nat)(vis:List Nat):∀ l:List (List D),mapO (mapO (asDX H (q+1) vis)) (l.map fun el:List D=>el.map AV.d)=some l
 | []=>rfl
 | d::l=>by
  simp only[List.map_cons,mapO,mapO_d H q vis d,mapO_dd H q vis l]
theorem zt7{H:AHeap}{q:Nat}{vis:List Nat}{nm sz N:Nat}{t:Bool}{es:List (List D)}(hg:H.get nm=some (dblk sz es))(hN:N=es.length):asDX H (q+2) vis (.sl nm sz 0 N N t)=some (.sl es t):=by
 subst hN
 have e1:Nat.ble (0+es.length) (es.map fun el:List D=>el.map AV.d).length=true:=by
  rw[Nat.ble_eq,List.length_map];omega
 have e2:Nat.beq sz sz=true:=nbeq sz
 unfold asDX
 dsimp only
 rw[hg]
 unfold dblk
 simp only[mapO_dd,e1,e2]
 simp
theorem lendW{V:AHeap}{nm sz N:Nat}{t:Bool}{es:List (List D)}{a p:D}(hg:V.get nm=some (dblk sz es))(hN:N=es.length):mapO (asDX V 9 []) [.agg [.d a,.sl nm sz 0 N N t],.d p]=some [.agg [a,.sl es t],p]:=by
 have h:=zt7 (q:=6) (vis:=[]) (t:=t) hg hN
 have e1:asDX V 8 [] (.d a)=some a:=rfl
 have e2:asDX V 9 [] (.d p)=some p:=rfl
 have e3:asDX V 9 [] (.agg [.d a,.sl nm sz 0 N N t])=some (.agg [a,.sl es t]):=by
  unfold asDX
  simp only[mapO,e1,h]
 simp only[mapO,e2,e3]
theorem nmSs_d:∀(l:List D) (t:List Nat),nmSs (l.map AV.d) t=t
 | [],_=>rfl
 | d::l,t=>by
  show AV.nmS (.d d) (nmSs (l.map AV.d) t)=t
  rw[nmSs_d l t];rfl
theorem fold_dd(t:List Nat):∀ es:List (List D),(es.map fun el:List D=>el.map AV.d).foldr nmSs t=t
 | []=>rfl
 | d::es=>by rw[List.map_cons,List.foldr_cons,fold_dd t es,nmSs_d]
theorem mark1{g:Nat->Option Blk}{n sz:Nat}{es:List (List D)}(hg:g n=some (dblk sz es)):markG g 300 [n] []=[n]:=by
 show markG g (299+1) [n] []=[n]
 unfold markG
 have e:elemN n []=false:=rfl
 simp only[e,hg]
 unfold dblk
 simp only[fold_dd]
 rfl
theorem zez{G:Nat->Option (List D)}{env:List (Nat×AV)}{g:Nat->Option Blk}{o:Oper}{f:Operand}{args:Array Operand}{tys:Array TypeId}{n sz:Nat}{es:List (List D)}(ho:o.op = .call ⟨.value f,args,tys⟩)(hn:(evE G env f).nmS (nmSs (args.toList.map (evE G env)) [])=[n])(hg:g n=some (dblk sz es)):rdOf G env g o=[n]:=by
 unfold rdOf
 rw[ho]
 dsimp only
 rw[hn]
 exact mark1 hg
theorem zdl{G:Nat->Option (List D)}{env:List (Nat×AV)}{g:Nat->Option Blk}{o:Oper}{l:List Nat}{k:List Nat->Prop}(h:rdOf G env g o=l)(hk:spine l k):spine (rdOf G env g o) k:=by
 rw[h];exact hk
abbrev rowsL(N:Nat)(rf:Nat->Ps):List Ps:=(List.range N).map rf
end Go.Tz
namespace Go.Tz
open Go Go.AL Go.Proofs Go.Ma
variable{G:Nat->Option (List D)}
abbrev intsD(ks:List Int)(u:Bool):D:=.sl (ks.map fun k=>[iD k]) u
theorem get_i{ks:List Int}{i:Nat}(h:i<ks.length):(ks.map fun k=>[iD k])[(i:Int).toNat]?=some [iD ks[i]]:=by
 rw[Int.toNat_natCast,List.getElem?_map,List.getElem?_eq_getElem h];rfl
theorem zot{f:FuncId}{v1:AV}{d1 d:D}{H:AHeap}{nx:Nat}{k:AV->AHeap->Nat->Prop}(h:PC Pr G f [d1] d)(h1:AsD H v1 d1)(hf:d.flat=true)(hk:k (.d d) H nx):CallVC Pr G f [v1] H nx k:=by
 refine zs6 h rfl (fun i v d a1 a2=>?_) hf hk
 match i,a1,a2 with
 | 0,a1,a2=>simp at a1 a2;subst a1 a2;exact h1
 | i+1,a1,_=>simp at a1
end Go.Tz
namespace Go.Tz
open Go Go.AL Go.Proofs Go.Ma
variable{G:Nat->Option (List D)}
def sbStep(wb:Nat->Nat->Bool)(i:Nat)(q:Ps)(s:Ps×(Nat->Bool)):Ps×(Nat->Bool):=if 0<=leadI q/\bitB s.1 (leadI q)=true then(mulS s.1 q,fun j=>s.2 j != wb i j) else s
def sbSt(m:List Ps)(wb:Nat->Nat->Bool)(p:Ps):Nat->Ps×(Nat->Bool)
 | 0=>(p,fun _=>false)
 | i+1=>sbStep wb i (m.getD i Ps.z0) (sbSt m wb p i)
def tkL(f:Nat->Bool)(n:Nat):List Nat:=(List.range n).filter f
theorem tkL_snoc(f:Nat->Bool)(i:Nat):tkL f (i+1)=if f i=true then tkL f i++[i] else tkL f i:=by
 unfold tkL
 rw[List.range_succ,List.filter_append]
 by_cases h:f i=true
 ·rw[if_pos h];simp[h]
 ·rw[if_neg h];simp[h]
end Go.Tz
namespace Go.Tz
open Go Go.AL Go.Proofs Go.Ma
variable{G:Nat->Option (List D)}
def sbL(w:Nat)(l:List Ps)(p:Ps):Ps×(Nat->Bool):=sbSt (redRows l (2*w)) (redN l (2*w)).2.1 p l.length
def tkP(l:List Ps)(f:Nat->Bool):List Ps:=(tkL f l.length).map fun n=>l.getD n Ps.z0
def phR(w:Nat)(l:List Ps)(p:Ps):Int:=(isub .i64 (iadd .i64 4 p.p) (prodS w (tkP l (sbL w l p).2)).p).tmod 4
def expR(w:Nat)(l:List Ps)(p:Ps):Int:=if(sbL w l p).1.x≠0\/(sbL w l p).1.z≠0 then 0 else if phR w l p=0 then 1 else -1
end Go.Tz
namespace Go.Tz
open Go Go.AL Go.Proofs Go.Ma
variable{G:Nat->Option (List D)}
def prjL(p:Ps):List Ps->List Ps
 | []=>[]
 | q::l=>if comV q p=true then q::prjL p l else p::l.map fun r=>if comV r p=true then r else mulS q r
end Go.Tz
namespace Go.Tz
open Go Go.AL Go.Proofs
variable{G:Nat->Option (List D)}
theorem chk24:chkFn Tryz.f24=true:=qah
theorem ints_sc(l:List Int):(((l.map fun k=>[iD k]).map (·.map AV.d)).all fun el=>el.all AV.scalar)=true:=by
 simp[AV.scalar,D.scalar]
theorem clone24(es:List (List D))(tg:Bool)(hes:∀ el,el∈es->el.length=1)(hsc:((es.map (·.map AV.d)).all fun el=>el.all AV.scalar)=true)(hbig:es.length<=1000000) :
  ACall Pr G 24 [.d (.sl es tg)] [] 0 fun v N k=>(v = .d (.sl [] true)/\es=[])\/(v = .sl 1 1 0 (0+es.length) (0+es.length) false/\N.get 1=some (.arr 1 (es.map (·.map .d)))/\k=2):=by
 refine za4 pok Tryz.func24 chk24 ?_
 conv=>whnf
 repeat' first|((first|refine ShlP.mk _ qaa ?_|refine And.intro qby ?_|rw[hsc]|refine HpP.force ?_);conv=>whnf)|(intro t ht;cases t<;>conv=>whnf)
 ·exact qg9
 ·exact qgt
theorem chk99:chkFn Tryz.f99=true:=qah
theorem idx99(l:List Int)(t:Bool)(v:Int)(hn:l.length<=1000000):PC Pr G 99 [intsD l t,iD v] (iD (idxI (fun k=>decide (v=k)) l)):=by
 refine zai pok Tryz.func99 chk99 ?_
 conv=>whnf
 skip
 refine zaq pok (fun k=>⟨[(0,.d (intsD l t)),(1,.d (iD v)),(7,.d (iD (l.map fun k=>[iD k]).length)),(8,.d (iD k))],[],0⟩) (l.length) (fun k=>∀ q,q∈l.take k->decide (v=q)=false) qc3 ?_ qah ?_ ?_
 ·exact qf2
 ·intro k A_k h_k I_k N_k
  have e_k:iadd .i64 (k:Int) 1=((k+1:Nat):Int):=zah qbl
  have hg:=get_i h_k
  conv=>whnf
  repeat (refine LookP.mk _ rfl ?_;conv=>whnf)
  intro t ht
  cases t
  ·exact qbh
  conv=>whnf
  repeat' first|((first|refine LookP.mk _ (by first|rfl|exact hg) ?_|refine And.intro qbi ?_|fail);conv=>whnf)|(intro t ht;cases t<;>conv=>whnf)
  ·have hnx:∀ q,q∈l.take (k+1)->decide (v=q)=false:=by
    rw[zbe h_k]
    intro q hq
    rcases List.mem_append.1 hq with h|h
    ·exact I_k q h
    ·rw[List.mem_singleton.1 h];simpa using ht
   refine N_k _ ?_ ?_
   ·exact qbj
   ·exact qf4
  ·rw[zfc h_k qb3 I_k]
   exact fin rfl
 ·intro A_last I_last
  rw[List.take_length]at I_last
  conv=>whnf
  repeat (refine LookP.mk _ rfl ?_;conv=>whnf)
  intro t ht
  cases t
  rotate_left
  ·exact qbh
  conv=>whnf
  skip
  rw[zfd I_last]
  exact fin rfl
theorem chk25:chkFn Tryz.f25=true:=qah
theorem has25(l:List Int)(t:Bool)(v:Int)(hn:l.length<=1000000):PC Pr G 25 [intsD l t,iD v] (.bool (decide (v∈l))):=by
 have hi:=idx99 (G:=G) l t v hn
 have e:decide (v∈l)=decide (idxI (fun k=>decide (v=k)) l>=0):=by
  rw[zmd,Bool.eq_iff_iff,decide_eq_true_eq,List.any_eq_true]
  constructor
  ·intro h;exact⟨v,h,by simp⟩
  ·rintro⟨q,hq,h⟩;rw[of_decide_eq_true h];exact hq
 rw[e]
 generalize idxI (fun k=>decide (v=k)) l=i at hi⊢
 refine zai pok Tryz.func25 chk25 ?_
 conv=>whnf
 repeat' first|(refine zak hi ?_;conv=>whnf)|(intro t ht;cases t<;>conv=>whnf)
 all_goals (rw[ht];exact fin rfl)
end Go.Tz
namespace Go.Tz
open Go Go.AL Go.Proofs Go.Ma
variable{G:Nat->Option (List D)}
theorem clone87o(l:List Ps)(t:Bool)(hpos:0<l.length)(hn:l.length<=1000000):PO Pr G 87 [rowsD l t] (.sl 0 4 0 l.length l.length false) [(0,some (dblk 4 (l.map Ps.l)))] 1:=by
 refine⟨za3 Tryz.func87 chk87,zaz (clone87 _ t (zkl l) (rows_sc l) qd8) ?_⟩
 rintro v H n (⟨rfl,he⟩|⟨rfl,hg,hk⟩)
 ·exfalso
  have:l.length=0:=by simpa using congrArg List.length he
  omega
 ·subst hk
  rw[List.length_map,Nat.zero_add]
  refine⟨_,_,1,?_,rfl,rfl,rfl⟩
  first|refine zav [(0,1)] ?_ ?_ ?_ trivial|refine zap [(0,1)] rfl rfl ?_ ?_ ?_ trivial
  ·exact qae
  ·exact qaz
  ·exact qaf
end Go.Tz
namespace Go.Tz
open Go Go.AL Go.Ma
theorem zrl{w:Nat}(hw:w<=12){q:Ps}(h:Vl w q):eok (nf q) ↔ q.p.tmod 2=0:=by
 obtain⟨X,Z,P,rfl,h1,h2,h3⟩:=h
 have hp:(2:Nat)^w<=2^12:=Nat.pow_le_pow_right qag hw
 have e:(mk w X Z P).p.tmod 2=((P%2:Nat):Int):=by show((P:Int)).tmod 2=_;rfl
 rw[e]
 unfold eok
 rw[zcq]
 dsimp only
 rw[zp9 qad qad,Nat.and_comm Z X]
 generalize pop 12 (X &&& Z)=k
 have:(decide (k%2=1)).toNat=k%2:=by
  by_cases q:k%2=1
  ·rw[decide_eq_true q,q];rfl
  ·rw[decide_eq_false q];simp;omega
 rw[this]
 constructor
 ·rintro⟨_,h⟩;omega
 ·intro h;exact⟨Nat.mod_lt _ qag,by omega⟩
theorem zqn(l:List Ps):revl (rfv l 0) l.length=(l.map vec).reverse:=by
 have key:∀ n,n<=l.length->revl (rfv l 0) n=((l.take n).map vec).reverse:=by
  intro n
  induction n with
  | zero=>intro _;rfl
  | succ n ih =>
   intro hn
   rw[zbe qad,List.map_append,List.reverse_append,revl,ih qad]
   have:rfv l 0 n=vec l[n]:=by
    unfold rfv
    simp only[redN,List.getD_eq_getElem?_getD,List.getElem?_eq_getElem (show n<l.length by omega),Option.getD_some]
   rw[this];rfl
 rw[key _ (Nat.le_refl _),List.take_length]
theorem rk_rev{l:List Nat}(h:∀ a,a∈l->a<2^24):rk l.reverse=rk l :=
 zxg (k:=24) (fun a ha=>h a (List.mem_reverse.1 ha)) h (zng (fun a ha=>zb3 _ _ (List.mem_reverse.1 ha)) (fun a ha=>zb3 _ _ (List.mem_reverse.2 ha)))
theorem zu1{w:Nat}(hw:w<=12){l:List Ps}(hv:∀ q,q∈l->Vl w q):rankN (redRows l (2*w))=l.length ↔ Ind ((l.map nf).map (·.2)):=by
 rw[zs0 hw hv,zqn,rk_rev]
 ·unfold Ind
  rw[List.map_map,List.length_map];rfl
 ·intro a ha
  obtain⟨q,hq,rfl⟩:=List.mem_map.1 ha
  exact zuj hw (hv q hq)
theorem zwm{l:List Ps}{i:Nat}(h:i<l.length):badAt l i=false ↔ l[i].p.tmod 2=0 /\ ∀ r,r∈l.take i->mulS l[i] r=mulS r l[i]:=by
 unfold badAt
 rw[List.getElem?_eq_getElem h]
 dsimp only
 rw[Bool.or_eq_false_iff,List.any_eq_false]
 simp
theorem zv0{w:Nat}(hw:w<=12){l:List Ps}(hv:∀ q,q∈l->Vl w q):badS l=false ↔ Good (l.map nf):=by
 have hb:badS l=false ↔ ∀ i (h:i<l.length),l[i].p.tmod 2=0 /\ ∀ r,r∈l.take i->mulS l[i] r=mulS r l[i]:=by
  unfold badS
  rw[List.any_eq_false]
  constructor
  ·intro h i hi
   exact(zwm hi).1 (by simpa using h i (List.mem_range.2 hi))
  ·intro h i hi
   have hi:=List.mem_range.1 hi
   rw[(zwm hi).2 (h i hi)];simp
 rw[hb]
 constructor
 ·intro h
  refine⟨fun a ha=>?_,fun a b ha hb=>?_⟩
  ·obtain⟨q,hq,rfl⟩:=List.mem_map.1 ha
   obtain⟨i,hi,rfl⟩:=List.getElem_of_mem hq
   exact(zrl hw (hv _ hq)).2 (h i hi).1
  ·obtain⟨q,hq,rfl⟩:=List.mem_map.1 ha
   obtain⟨r,hr,rfl⟩:=List.mem_map.1 hb
   obtain⟨i,hi,rfl⟩:=List.getElem_of_mem hq
   obtain⟨j,hj,rfl⟩:=List.getElem_of_mem hr
   rcases Nat.lt_trichotomy i j with e|e|e
   ·exact zba ((zpo hw (hv _ hr) (hv _ hq)).1 ((h j hj).2 _ (List.mem_take_iff_getElem.2 ⟨i,by omega,rfl⟩)))
   ·subst e;exact zro _
   ·exact(zpo hw (hv _ hq) (hv _ hr)).1 ((h i hi).2 _ (List.mem_take_iff_getElem.2 ⟨j,by omega,rfl⟩))
 ·intro h i hi
  have hm:=List.getElem_mem hi
  refine⟨(zrl hw (hv _ hm)).1 (h.ok _ (List.mem_map.2 ⟨_,hm,rfl⟩)),fun r hr=>?_⟩
  have hr2:=List.mem_of_mem_take hr
  exact(zpo hw (hv _ hm) (hv _ hr2)).2 (h.com _ _ (List.mem_map.2 ⟨_,hm,rfl⟩) (List.mem_map.2 ⟨_,hr2,rfl⟩))
theorem zbv{w:Nat}{l:List Ps}(h:SOk w l):Sta w (l.map nf) :=
 ⟨(zv0 h.hi h.vl).1 h.good,(zu1 h.hi h.vl).1 h.rank,by rw[List.length_map,h.len],fun a ha=>by
  obtain⟨q,hq,rfl⟩:=List.mem_map.1 ha
  exact zle h.hi (h.vl q hq)⟩
theorem zli{w:Nat}(hw:1<=w/\w<=12){l:List Ps}(hv:∀ q,q∈l->Vl w q)(h:Sta w (l.map nf)):SOk w l :=
 ⟨hw.1,hw.2,by have:=h.len;rwa [List.length_map]at this,hv,(zv0 hw.2 hv).2 h.good,(zu1 hw.2 hv).2 h.ind⟩
end Go.Tz
namespace Go.Tz
open Go Go.AL Go.Ma
theorem zh7{v:Nat->Nat}{m m':Nat->Bool}{n:Nat}(h:∀ j,j<n->m j=m' j):xr v m n=xr v m' n:=zh8 (fun _ _=>rfl) h
theorem swp_vec(rf:Nat->Ps)(a f j:Nat):vec (swapF rf a f j)=swp (fun j=>vec (rf j)) a f j:=by
 unfold swapF swp
 dsimp only
 split
 ·rfl
 ·split<;>rfl
theorem zuz{w:Nat}(hw:w<=12){l:List Ps}(hv:∀ q,q∈l->Vl w q):∀{c:Nat},c<=2*w->∀ j,j<l.length->rfv l c j=xr (rfv l 0) ((redN l c).2.1 j) l.length
 | 0,_,j,hj=>(zua hj).symm
 | c+1,hc,j,hj=>by
  have ih:=zuz hw hv (c:=c) qad
  obtain⟨q1,q2⟩:=zeq hw hv c
  rcases zol hw hv (c:=c) qad with⟨_,h2,_⟩|⟨f,f1,f2,_,f4,_,f5⟩
  ·unfold rfv at ih⊢
   rw[h2];exact ih j hj
  ·rw[f5 j hj,f4]
   have ha:(redN l c).2.2<l.length:=qad
   have hS:∀ i,i<l.length->swp (rfv l c) (redN l c).2.2 f i=xr (rfv l 0) (swapF (redN l c).2.1 (redN l c).2.2 f i) l.length:=by
    intro i hi
    unfold swp swapF
    split
    ·exact ih f f2
    ·split
     ·exact ih _ ha
     ·exact ih i hi
   have hb:bitB (swapF (redN l c).1 (redN l c).2.2 f j) c=cb (swp (rfv l c) (redN l c).2.2 f j) c:=by
    have:Vl w (swapF (redN l c).1 (redN l c).2.2 f j):=by
     unfold swapF
     split
     ·exact q1 f f2
     ·split
      ·exact q1 _ ha
      ·exact q1 j hj
    rw[zfv hw qad this,swp_vec];rfl
   unfold clr clrB
   by_cases e:j≠(redN l c).2.2/\cb (swp (rfv l c) (redN l c).2.2 f j) c=true
   ·rw[if_pos e,if_pos ⟨hj,e.1,by rw[hb];exact e.2⟩,hS j hj,hS _ ha,<- zp4]
    exact zh7 fun q hq=>by rw[if_pos hq]
   ·rw[if_neg e,if_neg (fun h=>e ⟨h.2.1,by rw[<- hb];exact h.2.2⟩)]
    exact hS j hj
def SameG(L M:List E):Prop:=∀ g,Gen L g ↔ Gen M g
theorem zuu{L M:List E}(hL:Good L)(h1:∀ a,a∈M->Gen L a)(h2:∀ a,a∈L->Gen M a):SameG L M:=fun _=>⟨ztp (zpa hL h1) h2,ztp hL h1⟩
theorem sta_same{w:Nat}(hw:w<=12){L M:List E}(hL:Sta w L)(hM:M.length=w)(h1:∀ a,a∈M->Gen L a)(h2:∀ a,a∈L->Gen M a):Sta w M:=by
 have hlt:∀ v,inV w v->v<2^24:=fun v hv=>zqj _ (U_lt hw) _ hv
 have hin:∀ a,a∈M->inV w a.2:=fun a ha=>by
  have:=zc5 (h1 a ha)
  refine zlk _ _ (fun b hb=>?_) _ this
  obtain⟨q,hq,rfl⟩:=List.mem_map.1 hb
  exact hL.inv q hq
 refine⟨zpa hL.good h1,?_,hM,hin⟩
 have:rk (M.map (·.2))=rk (L.map (·.2)):=by
  refine zxg (k:=24) ?_ ?_ (zng ?_ ?_)
  ·intro a ha
   obtain⟨q,hq,rfl⟩:=List.mem_map.1 ha;exact hlt _ (hin q hq)
  ·intro a ha
   obtain⟨q,hq,rfl⟩:=List.mem_map.1 ha;exact hlt _ (hL.inv q hq)
  ·intro a ha
   obtain⟨q,hq,rfl⟩:=List.mem_map.1 ha;exact zc5 (h1 q hq)
  ·intro a ha
   obtain⟨q,hq,rfl⟩:=List.mem_map.1 ha;exact zc5 (h2 q hq)
 unfold Ind
 rw[this,hL.ind];simp[hL.len,hM]
theorem zlt{w:Nat}(hw:w<=12){l:List Ps}(hv:∀ q,q∈l->Vl w q)(hG:Good (l.map nf)):∀{c:Nat},c<=2*w->(∀ j,j<l.length->Gen (l.map nf) (nf ((redN l c).1 j))) /\ ∀ a,a∈l.map nf->Gen ((redRows l c).map nf) a
 | 0,_=>by
  have e:∀ j (h:j<l.length),(redN l 0).1 j=l[j]:=fun j h=>by
   show l.getD j Ps.z0=l[j]
   rw[List.getD_eq_getElem?_getD,List.getElem?_eq_getElem h];rfl
  refine⟨fun j hj=>?_,fun a ha=>?_⟩
  ·rw[e j hj];exact zbd hG (List.mem_map.2 ⟨_,List.getElem_mem hj,rfl⟩)
  ·obtain⟨q,hq,rfl⟩:=List.mem_map.1 ha
   obtain⟨j,hj,rfl⟩:=List.getElem_of_mem hq
   refine gen_mem (fun b hb=>?_) (List.mem_map.2 ⟨(redN l 0).1 j,List.mem_map.2 ⟨j,List.mem_range.2 hj,rfl⟩,by rw[e j hj]⟩)
   obtain⟨r,_,rfl⟩:=List.mem_map.1 hb
   exact nf_lt r
 | c+1,hc=>by
  obtain⟨h1,h2⟩:=zlt hw hv hG (c:=c) qad
  obtain⟨q1,q2⟩:=zeq hw hv c
  have hmem:∀(f:Nat->Ps) j,j<l.length->nf (f j)∈((List.range l.length).map f).map nf:=fun f j hj=>List.mem_map.2 ⟨f j,List.mem_map.2 ⟨j,List.mem_range.2 hj,rfl⟩,rfl⟩
  simp only[redRows,redN,colS]
  cases hf:fndO (redN l c).1 l.length c (redN l c).2.2 with
  | none=>exact⟨h1,h2⟩
  | some f =>
   obtain⟨f1,f2,f3,f4⟩:=zek hf
   have ha:(redN l c).2.2<l.length:=qad
   dsimp only
   generalize (redN l c).2.2=a at f1 ha⊢
   have sV:∀ j,j<l.length->Vl w (swapF (redN l c).1 a f j):=fun j hj=>by
    unfold swapF
    split
    ·exact q1 f f2
    ·split
     ·exact q1 _ ha
     ·exact q1 j hj
   have sG:∀ j,j<l.length->Gen (l.map nf) (nf (swapF (redN l c).1 a f j)):=fun j hj=>by
    unfold swapF
    split
    ·exact h1 f f2
    ·split
     ·exact h1 _ ha
     ·exact h1 j hj
   have sB:∀ j,j<l.length->∃ i,i<l.length/\(redN l c).1 j=swapF (redN l c).1 a f i:=fun j hj=>by
    by_cases e1:j=f
    ·exact⟨a,ha,by unfold swapF;rw[if_pos rfl,e1]⟩
    ·by_cases e2:j=a
     ·exact⟨f,f2,by unfold swapF;rw[if_neg qad,if_pos rfl,e2]⟩
     ·exact⟨j,hj,by unfold swapF;rw[if_neg e2,if_neg e1]⟩
   generalize swapF (redN l c).1 a f=s at sV sG sB
   have cG:∀ j,j<l.length->Gen (l.map nf) (nf (clrR s a c l.length j)):=fun j hj=>by
    unfold clrR
    split
    ·rw[zd1 hw (sV j hj) (sV a ha)];exact zbu hG (sG j hj) (sG a ha)
    ·exact sG j hj
   have hM:Good (((List.range l.length).map (clrR s a c l.length)).map nf):=zpa hG fun b hb=>by
    obtain⟨r,hr,rfl⟩:=List.mem_map.1 hb
    obtain⟨j,hj,rfl⟩:=List.mem_map.1 hr
    exact cG j (List.mem_range.1 hj)
   have gA:Gen (((List.range l.length).map (clrR s a c l.length)).map nf) (nf (s a)):=by
    have:=zbd hM (hmem (clrR s a c l.length) a ha)
    rwa [clrR_a]at this
   have gS:∀ j,j<l.length->Gen (((List.range l.length).map (clrR s a c l.length)).map nf) (nf (s j)):=fun j hj=>by
    have h:=zbd hM (hmem (clrR s a c l.length) j hj)
    unfold clrR at h
    skip
    split at h
    ·rw[zd1 hw (sV j hj) (sV a ha)]at h
     have h3:=zbu hM h gA
     rw[zbh,zcm (zcl hG (sG a ha)),zg4 _ (nf_lt _)]at h3
     exact h3
    ·exact h
   refine⟨cG,fun b hb=>?_⟩
   refine ztp hM (fun x hx=>?_) (h2 b hb)
   obtain⟨r,hr,rfl⟩:=List.mem_map.1 hx
   obtain⟨j,hj,rfl⟩:=List.mem_map.1 hr
   obtain⟨i,hi,e⟩:=sB j (List.mem_range.1 hj)
   rw[e];exact gS i hi
theorem zbg{w:Nat}{l:List Ps}(h:SOk w l):SOk w (redRows l (2*w))/\SameG (l.map nf) ((redRows l (2*w)).map nf):=by
 have hs:=zbv h
 obtain⟨h1,h2⟩:=zlt h.hi h.vl hs.good (Nat.le_refl (2*w))
 have h1':∀ a,a∈(redRows l (2*w)).map nf->Gen (l.map nf) a:=fun a ha=>by
  obtain⟨r,hr,rfl⟩:=List.mem_map.1 ha
  obtain⟨j,hj,rfl⟩:=List.mem_map.1 hr
  exact h1 j (List.mem_range.1 hj)
 refine⟨zli ⟨h.lo,h.hi⟩ (fun q hq=>?_) (sta_same h.hi hs (by rw[List.length_map,zls,h.len]) h1' h2),zuu hs.good h1' h2⟩
 obtain⟨j,hj,rfl⟩:=List.mem_map.1 hq
 exact(zeq h.hi h.vl _).1 j (List.mem_range.1 hj)
end Go.Tz
namespace Go.Tz
open Go Go.AL Go.Ma
theorem lead_eq{w:Nat}(hw:w<=12){q:Ps}(h:Vl w q){d:Nat}(hd:d<2*w)(h1:cb (vec q) d=true)(h2:∀ e,e<d->cb (vec q) e=false):leadI q=d:=by
 have key:∀ f k,k+f=2*w->k<=d->leadF q f k=d:=by
  intro f
  induction f with
  | zero=>intro k e1 e2;omega
  | succ f ih =>
   intro k e1 e2
   simp only[leadF]
   rw[zfv hw qad h]
   by_cases e:k=d
   ·subst e;rw[if_pos h1]
   ·rw[h2 k qad,if_neg qc3];exact ih (k+1) qad qad
 unfold leadI
 rw[vl_w h,Int.toNat_natCast]
 exact key _ _ qad qad
theorem rows_at(l:List Ps){c i:Nat}(hi:i<l.length):(redRows l c).getD i Ps.z0=(redN l c).1 i:=by
 unfold redRows
 simp[List.getD_eq_getElem?_getD,hi]
theorem sb_inv{w:Nat}(hw:w<=12){l:List Ps}(hv:∀ q,q∈l->Vl w q){p:Ps}(hp:Vl w p){pc:Nat->Nat}(h1:RR l.length (2*w) (redN l (2*w)).2.2 (rfv l (2*w)) pc)(h2:Piv l.length (rfv l (2*w)) (fun i=>pos (pc i)) fun i=>decide (i<(redN l (2*w)).2.2)) :
  ∀ i,i<=l.length->Vl w (sbSt (redRows l (2*w)) (redN l (2*w)).2.1 p i).1/\vec (sbSt (redRows l (2*w)) (redN l (2*w)).2.1 p i).1=slv (rfv l (2*w)) (fun i=>pos (pc i)) (fun i=>decide (i<(redN l (2*w)).2.2)) (vec p) i ∧
   vec (sbSt (redRows l (2*w)) (redN l (2*w)).2.1 p i).1=vec p^^^xr (rfv l 0) (sbSt (redRows l (2*w)) (redN l (2*w)).2.1 p i).2 l.length
 | 0,_=>⟨hp,rfl,by show vec p=vec p^^^xr (rfv l 0) (fun _=>false) l.length;rw[zk9 fun _ _=>rfl,Nat.xor_zero]⟩
 | i+1,hi=>by
  obtain⟨g1,g2,g3⟩:=sb_inv hw hv hp h1 h2 i qad
  have hqv:=(zeq hw hv (2*w)).1 i qad
  have hsum:=zuz hw hv (Nat.le_refl (2*w)) i qad
  simp only[sbSt,sbStep,rows_at l (show i<l.length by omega),slv]
  have hr:rfv l (2*w) i=vec ((redN l (2*w)).1 i):=rfl
  by_cases ha:i<(redN l (2*w)).2.2
  ·have hld:leadI ((redN l (2*w)).1 i)=pc i:=lead_eq hw hqv (h1.lt i ha) (h1.own i ha) (fun e he=>h1.lead i e ha he)
   have hb:bitB (sbSt (redRows l (2*w)) (redN l (2*w)).2.1 p i).1 (leadI ((redN l (2*w)).1 i))=(slv (rfv l (2*w)) (fun i=>pos (pc i)) (fun i=>decide (i<(redN l (2*w)).2.2)) (vec p) i).testBit (pos (pc i)):=by
    rw[hld,zfv hw (h1.lt i ha) g1,g2];rfl
   by_cases e:(slv (rfv l (2*w)) (fun i=>pos (pc i)) (fun i=>decide (i<(redN l (2*w)).2.2)) (vec p) i).testBit (pos (pc i))=true
   ·rw[if_pos (show 0<=leadI ((redN l (2*w)).1 i)/\bitB (sbSt (redRows l (2*w)) (redN l (2*w)).2.1 p i).1 (leadI ((redN l (2*w)).1 i))=true from⟨by rw[hld];omega,hb.trans e⟩)]
    rw[if_pos (show(decide (i<(redN l (2*w)).2.2)&&(slv (rfv l (2*w)) (fun i=>pos (pc i)) (fun i=>decide (i<(redN l (2*w)).2.2)) (vec p) i).testBit (pos (pc i)))=true by rw[decide_eq_true ha,e];rfl)]
    refine⟨zes hw g1 hqv,?_,?_⟩
    ·rw[zld hw g1 hqv,g2];rfl
    ·rw[zld hw g1 hqv,g3,zp4,Nat.xor_assoc,<- hsum];rfl
   ·rw[if_neg (show ¬(0<=leadI ((redN l (2*w)).1 i)/\bitB (sbSt (redRows l (2*w)) (redN l (2*w)).2.1 p i).1 (leadI ((redN l (2*w)).1 i))=true) from fun h=>e (hb.symm.trans h.2))]
    rw[if_neg (show ¬(decide (i<(redN l (2*w)).2.2)&&(slv (rfv l (2*w)) (fun i=>pos (pc i)) (fun i=>decide (i<(redN l (2*w)).2.2)) (vec p) i).testBit (pos (pc i)))=true from fun h=>e (Bool.and_eq_true_iff.1 h).2)]
    exact⟨g1,g2,g3⟩
  ·have hz:vec ((redN l (2*w)).1 i)=0:=h2.zero i qad qb8
   have hn:¬ 0<=leadI ((redN l (2*w)).1 i):=fun h=>(lead_nz hw hqv).1 h hz
   rw[if_neg (show ¬(0<=leadI ((redN l (2*w)).1 i)/\bitB (sbSt (redRows l (2*w)) (redN l (2*w)).2.1 p i).1 (leadI ((redN l (2*w)).1 i))=true) from fun h=>hn h.1)]
   rw[if_neg (show ¬(decide (i<(redN l (2*w)).2.2)&&(slv (rfv l (2*w)) (fun i=>pos (pc i)) (fun i=>decide (i<(redN l (2*w)).2.2)) (vec p) i).testBit (pos (pc i)))=true from fun h=>ha (by simpa using (Bool.and_eq_true_iff.1 h).1))]
   exact⟨g1,g2,g3⟩
theorem vec_z{w:Nat}{q:Ps}(h:Vl w q):(q.x≠0\/q.z≠0) ↔ vec q≠0:=by
 obtain⟨X,Z,P,rfl,h1,h2,h3⟩:=h
 unfold vec
 rw[zcq]
 show((X:Int)≠0\/(Z:Int)≠0) ↔ X+4096*Z≠0
 omega
theorem zuh(w:Nat):Vl w ⟨w,0,0,0⟩:=⟨0,0,0,rfl,Nat.two_pow_pos w,Nat.two_pow_pos w,by decide⟩
theorem nf_one(w:Nat):nf ⟨w,0,0,0⟩=e1:=by
 show nf (mk w 0 0 0)=e1
 rw[zcq];decide
theorem zuq{l:List Ps}{v:Nat}:spB (revl (rfv l 0) l.length) v=spB ((l.map nf).map (·.2)) v:=by
 rw[zqn]
 have e:l.map vec=(l.map nf).map (·.2):=by rw[List.map_map];rfl
 rw[e]
 exact zng (fun a ha=>zb3 _ _ (List.mem_reverse.1 ha)) (fun a ha=>zb3 _ _ (List.mem_reverse.2 ha)) v
theorem rfv_0(l:List Ps){i:Nat}(hi:i<l.length):rfv l 0 i=vec l[i]:=by
 unfold rfv
 simp only[redN,List.getD_eq_getElem?_getD,List.getElem?_eq_getElem hi,Option.getD_some]
theorem prod_tk{w:Nat}(hw:w<=12){l:List Ps}(hv:∀ q,q∈l->Vl w q)(hG:Good (l.map nf))(f:Nat->Bool):∀ i,i<=l.length->Vl w (prodS w ((tkL f i).map fun n=>l.getD n Ps.z0))/\Gen (l.map nf) (nf (prodS w ((tkL f i).map fun n=>l.getD n Ps.z0)))/\vec (prodS w ((tkL f i).map fun n=>l.getD n Ps.z0))=xr (rfv l 0) f i
 | 0,_=>⟨zuh w,by show Gen _ (nf ⟨w,0,0,0⟩);rw[nf_one];exact .one,rfl⟩
 | i+1,hi=>by
  obtain⟨g1,g2,g3⟩:=prod_tk hw hv hG f i qad
  rw[tkL_snoc]
  simp only[xr]
  by_cases e:f i=true
  ·rw[if_pos e,if_pos e,List.map_append,List.map_singleton,zxn]
   have hq:l.getD i Ps.z0=l[i]:=qda
   rw[hq]
   have hm:=List.getElem_mem (show i<l.length by omega)
   refine⟨zes hw g1 (hv _ hm),?_,?_⟩
   ·exact qdt
   ·rw[zld hw g1 (hv _ hm),g3,rfv_0 l qad]
  ·rw[if_neg e,if_neg e];exact⟨g1,g2,g3⟩
theorem p_eq{w:Nat}(hw:w<=12){q r:Ps}(hq:Vl w q)(hr:Vl w r)(hv:vec q=vec r):q.p=r.p ↔ nf q=nf r:=by
 obtain⟨X,Z,P,rfl,h1,h2,h3⟩:=hq
 obtain⟨X',Z',P',rfl,h4,h5,h6⟩:=hr
 unfold vec at hv
 rw[zcq,zcq]at hv⊢
 dsimp only at hv
 have hp:(2:Nat)^w<=2^12:=Nat.pow_le_pow_right qag hw
 have e1:X=X':=qad
 have e2:Z=Z':=qad
 subst e1 e2
 show(P:Int)=(P':Int) ↔ _
 constructor
 ·intro h
  have:P=P':=qad
  rw[this]
 ·intro h
  have:=congrArg Prod.fst h
  dsimp only at this
  omega
structure ExpOk (L:List E) (g:E) (e:Int):Prop where
 pos:Gen L g->e=1
 neg:Gen L (eneg g)->e = -1
 zero:¬ Gen L g->¬ Gen L (eneg g)->e=0
theorem zxx{L M:List E}(h:SameG L M){g:E}{e e':Int}(h1:ExpOk L g e)(h2:ExpOk M g e'):e=e':=by
 by_cases a:Gen L g
 ·rw[h1.pos a,h2.pos ((h g).1 a)]
 ·by_cases b:Gen L (eneg g)
  ·rw[h1.neg b,h2.neg ((h _).1 b)]
  ·rw[h1.zero a b,h2.zero (fun c=>a ((h g).2 c)) (fun c=>b ((h _).2 c))]
theorem zgh{w:Nat}{l:List Ps}(h:SOk w l){p:Ps}(hp:Vl w p)(hk:eok (nf p)):ExpOk (l.map nf) (nf p) (expR w l p):=by
 have hst:=zbv h
 obtain⟨pc,r1,r2⟩:=zsw h.hi h.vl
 obtain⟨g1,g2,g3⟩:=sb_inv h.hi h.vl hp r1 r2 l.length (Nat.le_refl _)
 have hz:=zus r2 (vec p)
 rw[<- g2,zgu h.hi h.vl _ (Nat.le_refl _),zuq]at hz
 have hx:=vec_z g1
 unfold expR phR tkP
 have hsv:sbL w l p=sbSt (redRows l (2*w)) (redN l (2*w)).2.1 p l.length:=rfl
 rw[hsv]
 generalize sbSt (redRows l (2*w)) (redN l (2*w)).2.1 p l.length=s at g1 g2 g3 hz hx⊢
 by_cases e:vec s.1=0
 ·rw[if_neg (fun q=>hx.1 q e)]
  rw[e]at g3
  have hxr:xr (rfv l 0) s.2 l.length=vec p:=by
   have:=congrArg (· ^^^ xr (rfv l 0) s.2 l.length) g3
   simpa only[zau,Nat.zero_xor] using this
  obtain⟨k1,k2,k3⟩:=prod_tk h.hi h.vl hst.good s.2 l.length (Nat.le_refl _)
  rw[hxr]at k3
  generalize prodS w ((tkL s.2 l.length).map fun n=>l.getD n Ps.z0)=g at k1 k2 k3⊢
  have hpe:=p_eq h.hi hp k1 k3.symm
  have hph:(isub .i64 (iadd .i64 4 p.p) g.p).tmod 4=0 ↔ p.p=g.p:=by
   obtain⟨X,Z,P,rfl,_,_,a3⟩:=hp
   obtain⟨X',Z',P',rfl,_,_,b3⟩:=k1
   show(isub .i64 (iadd .i64 4 (P:Int)) (P':Int)).tmod 4=0 ↔ (P:Int)=P'
   have e1:iadd .i64 4 (P:Int)=((4+P:Nat):Int):=zah (a:=4) qad
   rw[e1,zkw qad qad]
   have e2:(((4+P-P':Nat):Int)).tmod 4=(((4+P-P')%4:Nat):Int):=rfl
   rw[e2]
   omega
  refine⟨fun q=>?_,fun q=>?_,fun a b=>?_⟩
  ·rw[if_pos (hph.2 (hpe.2 (ziu hst.good hst.ind q k2 k3.symm)))]
  ·rw[if_neg fun c=>?_]
   have e1:=hpe.1 (hph.1 c)
   have e2:=ziu hst.good hst.ind q k2 k3.symm
   rw[<- e1]at e2
   exact ztt hk.1 e2
  ·exact qgy
 ·rw[if_pos (hx.2 e)]
  refine⟨fun q=>absurd (hz.2 (zc5 q)) e,fun q=>absurd (hz.2 (zc5 (g:=eneg (nf p)) q)) e,fun _ _=>rfl⟩
end Go.Tz
