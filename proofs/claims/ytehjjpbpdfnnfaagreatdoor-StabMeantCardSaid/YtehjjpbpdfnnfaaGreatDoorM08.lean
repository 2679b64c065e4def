import Derived.Test.YtehjjpbpdfnnfaaGreatDoorM00
import Derived.Test.YtehjjpbpdfnnfaaGreatDoorM07
namespace Go.Tz
open Go Go.AL Go.Proofs
noncomputable def rnB(f:FuncId)(ds:List D)(d:D):Bool:=match rn f ds with
 | some e=>dB e d
 | none=>false
theorem zf6{f:FuncId}{ds:List D}{d:D}(h:rnB f ds d=true):PC Pr GG f ds d:=by
 unfold rnB at h
 split at h
 ·rename_i e he
  rw[<- dB_eq _ _ h];exact zkj he
 ·exact qed
def amL:Option Nat->Nat->List D
 | none,_=>nmD 0 0 0 0 0
 | some p,m=>nmD (if p=0 then 1 else if p=2 then -1 else 0) 0 (if p=1 then 1 else if p=3 then -1 else 0) 0 m
abbrev amD(p:Option Nat)(m:Nat):D:=.agg (amL p m)
theorem mul75{p m:Nat}(hp:p<4)(hm:m<=12):PC Pr GG 75 [amD (some p) 0,amD (some 0) m] (.tup [amD (some p) m,iD 0]):=by
 have h:((List.range 4).all fun p=>(List.range 13).all fun m=>rnB 75 [amD (some p) 0,amD (some 0) m] (.tup [amD (some p) m,iD 0]))=true:=qah
 exact zf6 (List.all_eq_true.1 (List.all_eq_true.1 h p (List.mem_range.2 hp)) m (List.mem_range.2 qad))
theorem root78{m:Nat}(hm:m<=12):PC Pr GG 78 [iD m] (.tup [amD (some 0) m,iD 0]):=by
 have h:((List.range 13).all fun m:Nat=>rnB 78 [iD m] (.tup [amD (some 0) m,iD 0]))=true:=qah
 exact zf6 (List.all_eq_true.1 h m (List.mem_range.2 qad))
theorem omega165{q:Nat}(hq:q<40):PC Pr GG 165 [iD (2*q:Nat)] (amD (some (q%4)) 0):=by
 have h:((List.range 40).all fun q:Nat=>rnB 165 [iD (2*q:Nat)] (amD (some (q%4)) 0))=true:=qah
 exact zf6 (List.all_eq_true.1 h q (List.mem_range.2 hq))
end Go.Tz
namespace Go.Tz
open Go Go.AL Go.Proofs Go.Ma
theorem pow_i{i:Nat}(hi:i<12):2^i<=2048:=Nat.pow_le_pow_right qag (show i<=11 by omega)
abbrev fln(P X Z k i:Nat):Nat:=P+pop i (X &&& Z)+2*pop i (Z &&& k)
theorem pop_le:∀(k n:Nat),pop k n<=k
 | 0,_=>Nat.le_refl _
 | k+1,n=>by
  have:=pop_le k n
  simp only[pop]
  cases n.testBit k<;>simp<;>omega
theorem ph_nf{w:Nat}(hw:w<=12){X Z P k:Nat}(hX:X<2^w)(hZ:Z<2^w)(hk:k<2^w):phE (nf (mk w X Z P)) k=fln P X Z k w%4:=by
 have hp:2^w<=4096:=Nat.pow_le_pow_right qag hw
 rw[zcq]
 unfold phE
 have h1:=zp9 (X:=X) (Z:=Z) (X':=k) (Z':=0) qad qad
 rw[Nat.mul_zero,Nat.add_zero]at h1
 dsimp only
 rw[h1]
 obtain⟨d,hd⟩:∃ d,12=w+d:=⟨12-w,by omega⟩
 have e1:pop 12 (X &&& Z)=pop w (X &&& Z):=by rw[hd,zik (Nat.and_lt_two_pow X hZ)]
 have e2:pop 12 (Z &&& k)=pop w (Z &&& k):=by rw[hd,zik (Nat.and_lt_two_pow Z hk)]
 rw[e1,e2]
 unfold fln
 by_cases h:pop w (Z &&& k)%2=1
 ·rw[decide_eq_true h];show(_+2*1)%4=_;omega
 ·rw[decide_eq_false h];show(_+2*0)%4=_;omega
end Go.Tz
namespace Go.Tz
open Go Go.AL Go.Proofs Go.Ma
theorem zwg{sz N:Nat}{f g:Nat->List D}(h:∀ j,f j=g j):Blk.arr sz (((List.range N).map f).map fun el=>el.map AV.d)=dblk sz ((List.range N).map g):=by rw[funext h];rfl
theorem knownB{b c:Bool}{k:Bool->Prop}(h:b=c)(hk:k c):∀ t,b=t->k t:=fun t e=>by
 have:c=t:=h.symm.trans e
 exact this ▸ hk
end Go.Tz
namespace Go.Tz
open Go Go.AL Go.Proofs Go.Ma
abbrev vcL(val:Nat->Option Nat)(m N:Nat):List (List D):=(List.range N).map fun b=>amL (val b) m
theorem vec_snoc{val:Nat->Option Nat}{m k:Nat}:vcL val m (k+1)=vcL val m k++[amL (val k) m]:=by
 unfold vcL
 rw[List.range_succ,List.map_append];rfl
end Go.Tz
namespace Go.Tz
open Go Go.AL Go.Proofs Go.Ma
def fpL(a:Nat×Ps):List D:=[iD (a.1:Int),iD a.2.w,iD a.2.x,iD a.2.z,iD a.2.p]
abbrev fpD(l:List (Nat×Ps))(t:Bool):D:=.sl (l.map fpL) t
theorem chk98:chkFn Tryz.f98=true:=qah
def powI(q:Ps)(lst:Int):Int:=iadd .i64 (iadd .i64 q.p (ocI (IntKind.u64.wrap (iand .i64 q.x q.z)))) (imul .i64 2 (ocI (IntKind.u64.wrap (iand .i64 q.z lst))))
theorem pow_ok{w lst:Nat}(hw:w<=12){q:Ps}(hq:Vl w q)(hl:lst<2^w):∃ n:Nat,n<40/\powI q lst=n/\n%4=phE (nf q) lst:=by
 have hp:2^w<=4096:=Nat.pow_le_pow_right qag hw
 obtain⟨X,Z,P,rfl,h1,h2,h3⟩:=hq
 rw[ph_nf hw h1 h2 hl]
 obtain⟨d,hd⟩:∃ d,12=w+d:=⟨12-w,by omega⟩
 have e1:pop 12 (X &&& Z)=pop w (X &&& Z):=by rw[hd,zik (Nat.and_lt_two_pow X h2)]
 have e2:pop 12 (Z &&& lst)=pop w (Z &&& lst):=by rw[hd,zik (Nat.and_lt_two_pow Z hl)]
 have a1:X &&& Z<4096:=Nat.lt_of_lt_of_le (Nat.and_lt_two_pow X h2) hp
 have a2:Z &&& lst<4096:=Nat.lt_of_lt_of_le (Nat.and_lt_two_pow Z hl) hp
 have p1:=pop_le w (X &&& Z)
 have p2:=pop_le w (Z &&& lst)
 refine⟨fln P X Z lst w,by unfold fln;omega,?_,rfl⟩
 unfold powI mk
 dsimp only
 rw[zis qad qad,zis qad qad,wrapu qad,wrapu qad,zvg a1,zvg a2,e1,e2]
 unfold fln
 generalize pop w (X &&& Z)=m at p1⊢
 generalize pop w (Z &&& lst)=n at p2⊢
 rw[zah qad,show imul .i64 2 (n:Int)=((2*n:Nat):Int) from zet (a:=2) qad,zah qad]
theorem wy_vl{w:Nat}(hw:w<=12):∀(A:List (Nat×Ps)) (s:Ps×Nat),(∀ a,a∈A->Vl w a.2)->Vl w s.1->s.2<2^w->Vl w (A.foldl wyS s).1/\(A.foldl wyS s).2<2^w
 | [],_,_,h1,h2=>⟨h1,h2⟩
 | a::A,s,hA,h1,h2=>by
  rw[List.foldl_cons]
  refine wy_vl hw A _ (fun b hb=>hA b (List.mem_cons_of_mem _ hb)) ?_ ?_<;>unfold wyS<;>split
  ·exact zes hw h1 (hA a qc3)
  ·exact h1
  ·exact Nat.xor_lt_two_pow h2 (zk8 hw (hA a qc3)).2.1
  ·exact h2
theorem zt8{w:Nat}(hw:1<=w/\w<=12)(A:List (Nat×Ps))(t:Bool)(lst b:Nat)(hn:A.length<=12)(hl:lst<2^w)(hb:b<2^w)(hA:∀ a,a∈A->Vl w a.2/\a.1<12) :
  PC Pr GG 98 [fpD A t,iD lst,iD b,iD w] (amD (valW w A lst b) A.length):=by
 have hp:2^w<=4096:=Nat.pow_le_pow_right qag hw.2
 have hx:ixor .i64 (lst:Int) (b:Int)=((lst^^^b:Nat):Int):=zg1 qad qad
 have hu:lst^^^b<2^w:=Nat.xor_lt_two_pow hl hb
 have hval:valW w A lst b=if(A.foldl wyS (⟨w,0,0,0⟩,lst^^^b)).2=0 then some (phE (nf (A.foldl wyS (⟨w,0,0,0⟩,lst^^^b)).1) lst) else none:=rfl
 rw[hval]
 clear hval
 generalize lst^^^b=u at hx hu⊢
 have hwy:=fun i=>wy_vl hw.2 (A.take i) (⟨w,0,0,0⟩,u) (fun a ha=>(hA a (List.mem_of_mem_take ha)).1) (zuh w) hu
 have hro:=root78 hn
 refine zai pok Tryz.func98 chk98 ?_
 conv=>whnf
 repeat' first|((first|refine LookP.mk _ rfl ?_|refine ShlP.mk _ qaa ?_|rw[hx]|refine HpP.force ?_);conv=>whnf)
 refine zaq pok (fun i=>⟨[(0,.d (fpD A t)),(1,.d (iD lst)),(8,.ptr 0 5 0 0),(9,.ptr 1 4 0 0),(10,.d (iD (((A.take i).foldl wyS (⟨w,0,0,0⟩,u)).2:Nat))),(23,.d (fpD A t)),(24,.d (iD (A.map fpL).length)),(25,.d (iD i))],[(0,some (.arr 5 [[.d (iD 0),.d (iD 0),.d (iD 0),.d (iD 0),.d (iD 0)]])),(1,some (.arr 4 [((A.take i).foldl wyS (⟨w,0,0,0⟩,u)).1.l.map AV.d]))],2⟩) (A.length) (fun _=>True) (trivial) ?_ qah ?_ ?_
 ·exact qf2
 ·intro i A_i h_i I_i N_i
  have e_i:iadd .i64 (i:Int) 1=((i+1:Nat):Int):=zah qbl
  obtain⟨v1,v2⟩:=hwy i
  obtain⟨a1,a2⟩:=hA A[i] (List.getElem_mem h_i)
  have hst:(A.take (i+1)).foldl wyS (⟨w,0,0,0⟩,u)=wyS ((A.take i).foldl wyS (⟨w,0,0,0⟩,u)) A[i]:=by rw[zbe h_i,List.foldl_append];rfl
  have hgi:(A.map fpL)[(i:Int).toNat]?=some (fpL A[i]):=by simp[List.getElem?_eq_getElem h_i]
  generalize A[i]=f at a1 a2 hst hgi
  generalize (A.take (i+1)).foldl wyS (⟨w,0,0,0⟩,u)=s' at hst N_i
  generalize (A.take i).foldl wyS (⟨w,0,0,0⟩,u)=s at v1 v2 hst⊢
  obtain⟨q,v⟩:=s
  obtain⟨q',v'⟩:=s'
  obtain⟨k,r⟩:=f
  dsimp only at v1 v2 a1 a2 N_i⊢
  have hbit:iand .i64 (ishr .i64 (v:Int) (k:Int)) 1=if v.testBit k then 1 else 0:=zem qad qad
  obtain⟨_,x2,x3⟩:=zk8 hw.2 a1
  have hxr:ixor .i64 (v:Int) r.x=((v^^^r.x.toNat:Nat):Int):=by rw[x3];exact zg1 qad qad
  have ht2:=ze5 (G:=GG) hw q [r] true qc3 v1 (by intro y hy;rw[List.mem_singleton.1 hy];exact a1)
  have hme:([r].foldl mulS q)=mulS q r:=rfl
  rw[hme]at ht2
  unfold wyS at hst
  dsimp only at hst
  cases hbk:v.testBit k
  ·rw[hbk]at hbit hst
   rw[if_neg qag]at hst hbit
   cases hst
   conv=>whnf
   repeat (refine LookP.mk _ rfl ?_;conv=>whnf)
   intro t ht
   cases t
   ·exact qbh
   conv=>whnf
   repeat' first|((first|refine LookP.mk _ (by first|rfl|exact hgi) ?_|refine ShlP.mk _ qaa ?_|refine And.intro qbm ?_|rw[hbit]|refine knownB (show((0:Int)==1)=false from rfl) ?_|refine HpP.force ?_);conv=>whnf)
   refine N_i _ ?_ ?_
   ·exact qbj
   ·exact qf3
  ·rw[hbk]at hbit hst
   rw[if_pos rfl]at hst hbit
   generalize mulS q r=m at ht2 hst
   cases hst
   conv=>whnf
   repeat (refine LookP.mk _ rfl ?_;conv=>whnf)
   intro t ht
   cases t
   ·exact qbh
   conv=>whnf
   repeat' first|((first|refine LookP.mk _ (by first|rfl|exact hgi) ?_|refine ShlP.mk _ qaa ?_|refine And.intro qbm ?_|rw[hbit]|refine knownB (show((1:Int)==1)=true from rfl) ?_|refine zfm (ht2) rfl ?_|rw[hxr]|refine HpP.force ?_);conv=>whnf)
   refine N_i _ ?_ ?_
   ·exact qbj
   ·exact qf3
 ·intro A_last I_last
  rw[List.take_length]
  obtain⟨v1,v2⟩:=hwy A.length
  rw[List.take_length]at v1 v2
  obtain⟨n,n1,n2,n3⟩:=pow_ok hw.2 v1 hl
  generalize A.foldl wyS (⟨w,0,0,0⟩,u)=s at v1 v2 n2 n3⊢
  obtain⟨q,v⟩:=s
  dsimp only at v1 v2 n2 n3⊢
  unfold powI at n2
  have o1:=zow (G:=GG) (IntKind.u64.wrap (iand .i64 q.x q.z))
  have o2:=zow (G:=GG) (IntKind.u64.wrap (iand .i64 q.z lst))
  have e6:imul .i64 2 (n:Int)=((2*n:Nat):Int):=zet (a:=2) qad
  have hom:=omega165 n1
  have hmu:=mul75 (p:=n%4) qad hn
  rw[n3]at hom hmu
  have hln:(A.map fpL).length=A.length:=List.length_map _
  generalize phE (nf q) lst=p at hom hmu⊢
  generalize ocI (IntKind.u64.wrap (iand .i64 q.x q.z))=c1 at o1 n2
  generalize ocI (IntKind.u64.wrap (iand .i64 q.z lst))=c2 at o2 n2
  by_cases hv0:v=0
  ·rw[if_pos hv0]
   have hvb:((v:Int) != 0)=false:=by rw[hv0];rfl
   conv=>whnf
   repeat (refine LookP.mk _ rfl ?_;conv=>whnf)
   intro t ht
   cases t
   rotate_left
   ·exact qbh
   conv=>whnf
   repeat' first|((first|refine LookP.mk _ rfl ?_|refine ShlP.mk _ qaa ?_|refine And.intro qbi ?_|refine knownB hvb ?_|refine zam o1 ?_|refine zam o2 ?_|rw[n2]|rw[hln]|refine zak hro ?_|rw[e6]|refine zam hom ?_|refine zam hmu ?_|refine HpP.force ?_);conv=>whnf)
   exact fin rfl
  ·rw[if_neg hv0]
   have hvb:((v:Int) != 0)=true:=by simp[hv0]
   conv=>whnf
   repeat (refine LookP.mk _ rfl ?_;conv=>whnf)
   intro t ht
   cases t
   rotate_left
   ·exact qbh
   conv=>whnf
   repeat' first|((first|refine LookP.mk _ rfl ?_|refine ShlP.mk _ qaa ?_|refine knownB hvb ?_|refine HpP.force ?_);conv=>whnf)
   exact fin rfl
end Go.Tz
namespace Go.Tz
open Go Go.AL Go.Proofs Go.Ma
theorem zt6{H:AHeap}{nm sz len room:Nat}{t:Bool}{l:List (List D)}(hg:H.get nm=some (dblk sz l))(h1:len<=l.length):AsD H (.sl nm sz 0 len room t) (.sl (l.take len) (t&&decide (room=len))):=by
 have:=zea (lo:=0) (len:=len) (room:=room) (t:=t) hg qcz
 rw[List.drop_zero]at this
 exact this
theorem zwp{H:AHeap}{nm w m room:Nat}{rf:Nat->Ps}(hg:H.get nm=some (dblk 4 ((List.range w).map fun j=>Ps.l (rf j))))(h:m<=w):AsD H (.sl nm 4 0 m room false) (rowsD ((List.range m).map rf) false):=by
 have:=zt6 (len:=m) (room:=room) (t:=false) hg qa6
 have e:((List.range w).map fun j=>Ps.l (rf j)).take m=((List.range m).map rf).map Ps.l:=by
  rw[<- List.map_take,List.take_range,Nat.min_eq_left h,List.map_map];rfl
 rw[e]at this
 exact this
theorem zxy{w m f:Nat}(rf:Nat->Ps)(h:m<=w)(hf:f<m):List.take (m-((f+1:Nat):Int).toNat) (List.drop (0+((f+1:Nat):Int).toNat) (((List.range w).map fun j=>Ps.l (rf j)).map fun el=>el.map AV.d))=((List.range (m-1-f)).map fun j=>Ps.l (rf (f+1+j))).map fun el=>el.map AV.d:=by
 rw[Int.toNat_natCast,Nat.zero_add]
 apply List.ext_getElem
 ·exact qbo
 ·intro i h1 h2
  simp
def mvF(rf:Nat->Ps)(m f j:Nat):Ps:=if j<f then rf j else if j<m-1 then rf (j+1) else rf j
theorem over_rows{w m f:Nat}(rf:Nat->Ps)(h:m<=w)(hf:f<m):over (((List.range w).map fun j=>Ps.l (rf j)).map fun el=>el.map AV.d) (0+0+((f:Int).toNat-0)) (((List.range (m-1-f)).map fun j=>Ps.l (rf (f+1+j))).map fun el=>el.map AV.d)=((List.range w).map fun j=>Ps.l (mvF rf m f j)).map fun el=>el.map AV.d:=by
 rw[Int.toNat_natCast,Nat.zero_add,Nat.sub_zero]
 unfold over
 apply List.ext_getElem
 ·exact qbo
 ·intro i h1 h2
  simp only[List.length_map,List.length_range]at h2
  simp only[List.getElem_append,List.getElem_take,List.getElem_drop,List.getElem_map,List.getElem_range,List.length_take,List.length_map,List.length_range,List.length_append]
  unfold mvF
  by_cases a:i<f
  ·rw[dif_pos qad,dif_pos qad,if_pos a]
  ·by_cases b:i<m-1
   ·rw[dif_pos qad,dif_neg qad,if_neg a,if_pos b,show f+1+(i-min f w)=i+1 by omega]
   ·rw[dif_neg qad,if_neg a,if_neg b,show f+(m-1-f)+(i-(min f w+(m-1-f)))=i by omega]
theorem zx3{w m f:Nat}(rf:Nat->Ps)(h:m<=w)(hf:f<m)(hz:∀ j,m<=j->rf j=Ps.z0):over (((List.range w).map fun j=>Ps.l (mvF rf m f j)).map fun el=>el.map AV.d) (0+0+((m-1:Nat):Int).toNat) (List.replicate ((m:Int).toNat-((m-1:Nat):Int).toNat) (Ps.z0.l.map AV.d))=((List.range w).map fun j=>Ps.l (dlt rf f j)).map fun el=>el.map AV.d:=by
 rw[Int.toNat_natCast,Int.toNat_natCast,Nat.zero_add]
 unfold over
 apply List.ext_getElem
 ·exact qbo
 ·intro i h1 h2
  simp only[List.length_map,List.length_range]at h2
  simp only[List.getElem_append,List.getElem_take,List.getElem_drop,List.getElem_map,List.getElem_range,List.length_take,List.length_map,List.length_range,List.length_append,List.getElem_replicate,List.length_replicate]
  unfold mvF dlt
  by_cases a:i<m-1
  ·rw[dif_pos qad,dif_pos qad]
   by_cases b:i<f
   ·rw[if_pos b,if_pos b]
   ·rw[if_neg b,if_pos a,if_neg b]
  ·by_cases b:i=m-1
   ·rw[dif_pos qad,dif_neg qad,if_neg qad,hz (i+1) qad]
   ·rw[dif_neg qad,if_neg qad,if_neg qad,if_neg qad,hz (i+1) qad,hz _ qad]
theorem scal_rows{k:Nat}(g:Nat->Ps):((((List.range k).map fun j=>Ps.l (g j)).map fun el=>el.map AV.d).all fun el=>el.all AV.scalar)=true:=by
 rw[List.all_eq_true]
 intro el h
 obtain⟨x,hx,rfl⟩:=List.mem_map.1 h
 obtain⟨j,_,rfl⟩:=List.mem_map.1 hx
 rfl
theorem chk181:chkFn Tryz.f181=true:=qah
theorem has181(q:Ps)(n:Nat):PC Pr GG 181 [q.d,.rop [iD n] 0] (.bool (bitB q (2*n:Nat))):=by
 rw[zrx]
 refine zai pok Tryz.func181 chk181 ?_
 conv=>whnf
 repeat' first|((first|refine LookP.mk _ rfl ?_|refine And.intro qbi ?_|fail);conv=>whnf)|(intro t ht;cases t<;>conv=>whnf)
 all_goals
  refine fin ?_
  have e:decide (bitI q.x n=1)=(iand .i64 (ishr .i64 q.x n) 1==1):=by rw[Bool.eq_iff_iff,decide_eq_true_iff,beq_iff_eq];rfl
  rw[e,ht]
theorem chk96:chkFn Tryz.f96=true:=qah
theorem chk182:chkFn Tryz.f182=true:=qah
abbrev wkD(w:Nat)(l:List Ps):D:=.rop [iD w,rowsD l true,.any] 0
theorem pc_two{f:FuncId}{ds:List D}{d:D}(hf:IsFn Pr f)(h:ACall Pr GG f (ds.map .d) [] 2 fun v H _=>AsD H v d):PC Pr GG f ds d :=
 zck hf (zbj h (Nat.zero_le 2) (fun _ _ q=>q) fun v H1 _ q=>⟨H1,fun _ _ q=>.inl q,q⟩)
theorem flips96a{w:Nat}{l:List Ps}(hw:1<=w/\w<=12)(hlen:l.length=w)(hv:∀ q,q∈l->Vl w q)(hG:Good (l.map nf)) :
  ACall Pr GG 96 [.d (wkD w l)] [] 2 fun v H _=>∃ nm,v = .sl nm 5 0 (flA w (flN w l w)).length (flA w (flN w l w)).length false/\H.get nm=some (dblk 5 ((flA w (flN w l w)).map fpL)):=by
 have hcl:=clone87o (G:=GG) l true qad qad
 rw[hlen]at hcl
 have hrun:=fl_run hw.2 hlen hv hG
 have hl0:l.map Ps.l=(List.range w).map fun j=>Ps.l ((flN w l 0).r j):=by
  have e:l.map Ps.l=(List.range l.length).map fun j=>Ps.l (l.getD j Ps.z0):=by
   apply List.ext_getElem
   ·exact qc3
   ·intro j h1 h2
    have h3:j<l.length:=qcz
    simp[List.getElem?_eq_getElem h3]
  rw[e,hlen];rfl
 refine za4 pok Tryz.func96 chk96 ?_
 conv=>whnf
 repeat' first|(refine zlx hcl ?_;conv=>whnf)
 rw[hl0]
 refine zaq pok (fun n=>⟨[(3,.sl 3 5 0 (w-(flN w l n).m) (w-(flN w l n).m) false),(4,.sl 2 4 0 (flN w l n).m w false),(20,.d (iD w)),(21,.d (iD n))],[(2,some (dblk 4 ((List.range w).map fun j=>Ps.l ((flN w l n).r j)))),(3,some (dblk 5 ((List.range (w-(flN w l n).m)).map fun j=>fpL ((flN w l n).o j))))],4⟩) (w) (fun _=>True) (trivial) ?_ qah ?_ ?_
 ·refine Sub.trans (zhp (t:=3) (S:=5) (Nat.le_of_ble_eq_true rfl) rfl) ?_
  refine zac qac ?_ ?_ trivial
  ·repeat' first|exact trivial|refine⟨⟨by first|rfl|assumption|(show AV.sl 3 5 0 0 0 false=AV.sl 3 5 0 (w-w) (w-w) false;rw[Nat.sub_self])|rfl,rfl⟩,?_⟩
  ·repeat' first|exact trivial|refine⟨⟨ltB rfl,_,rfl,by first|rfl|assumption|(show some (Blk.arr 5 [])=some (dblk 5 ((List.range (w-w)).map _));rw[Nat.sub_self];rfl)|(show some (Blk.ren _ (dblk 4 _))=_;rw[zbf]),by first|exact zae rfl|exact zaa _ _ _|exact zab rfl⟩,?_⟩
 ·intro n A_n h_n I_n N_n
  have e_n:iadd .i64 (n:Int) 1=((n+1:Nat):Int):=zah qbl
  have hok:=hrun n qad
  have hnx:flN w l (n+1)=flS w n (flN w l n):=rfl
  unfold flS at hnx
  generalize hR:flN w l n=s at hok hnx⊢
  obtain⟨rf,m,of⟩:=s
  have hm:=hok.le
  have hrv:=fun j (hj:j<m)=>zv4 hok hj
  have hov:=fun j (hj:j<w-m)=>flok_o hok hj
  have hrz:=hok.z
  dsimp only at hm hrv hov hrz hnx⊢
  have hidx:=idx180 (G:=GG) ((List.range m).map rf) false 181 [] [.rop [iD n] 0] (fun q=>bitB q (2*n:Nat)) qbo fun q _=>has181 q n
  have hif:=idx_fnd (rf:=rf) (n:=m) (c:=2*n) (a:=0) (Nat.zero_le _)
  rw[List.drop_zero]at hif
  rw[hif]at hidx
  clear hif
  conv=>whnf
  repeat (refine LookP.mk _ rfl ?_;conv=>whnf)
  intro t ht
  cases t
  ·exact qbh
  conv=>whnf
  repeat' first|((first|refine LookP.mk _ rfl ?_|refine ShlP.mk _ qaa ?_|refine HpP.force ?_);conv=>whnf)
  cases hf:fndO rf m (2*n) 0 with
  | none =>
   rw[hf]at hidx hnx
   dsimp only at hidx hnx
   refine zgx hidx (zwp rfl hm) (zjx (zjw rfl)) rfl ?_
   conv=>whnf
   repeat' first|(refine LookP.mk _ rfl ?_;conv=>whnf)|(intro t ht;cases t<;>conv=>whnf)
   ·exact qcx
   ·rw[hnx]at N_n
    refine N_n _ ?_ ?_
    ·exact qbj
    ·refine zac qac ?_ ?_ trivial
     ·exact qav
     ·exact qab
  | some f =>
   rw[hf]at hidx hnx
   dsimp only at hidx hnx
   rw[Nat.sub_zero]at hidx
   obtain⟨_,hf1,hf2,_⟩:=zek hf
   refine zgx hidx (zwp rfl hm) (zjx (zjw rfl)) rfl ?_
   conv=>whnf
   repeat' first|((first|refine LookP.mk _ (by first|rfl|exact zeu (f:=fun j=>Ps.l (rf j)) (show f<w by omega)) ?_|refine ShlP.mk _ qaa ?_|refine And.intro qbm ?_|refine HpP.force ?_);conv=>whnf)|(intro t ht;cases t<;>conv=>whnf)
   ·have e1:iadd .i64 (f:Int) 1=((f+1:Nat):Int):=zah (b:=1) qad
    have hne:((f:Int)==((f+1:Nat):Int))=false:=qbo
    rw[e1]
    refine zbb pok Tryz.func182 chk182 ?_
    conv=>whnf
    have hbq:(w-0).beq ((f:Int).toNat-0)=false:=by
     rw[Int.toNat_natCast]
     cases e:(w-0).beq (f-0) with
     | false=>rfl
     | true=>have:=Nat.eq_of_beq_eq_true e;omega
    have hl2:(f:Int).toNat-0+(((List.range (m-1-f)).map fun j=>Ps.l (rf (f+1+j))).map fun el=>el.map AV.d).length=m-1:=qbo
    have hcl2:0+0+((m-1:Nat):Int).toNat+((m:Int).toNat-((m-1:Nat):Int).toNat)<=(((List.range w).map fun j=>Ps.l (mvF rf m f j)).map fun el=>el.map AV.d).length:=by rw[Int.toNat_natCast,Int.toNat_natCast];simp;omega
    have hfl2:0+((f+1:Nat):Int).toNat+(m-((f+1:Nat):Int).toNat)<=(((List.range w).map fun j=>Ps.l (rf j)).map fun el=>el.map AV.d).length:=qbo
    repeat' first|((first|refine ShlP.mk _ (by first|exact zxy rf hm hf1|exact over_rows rf hm hf1|exact zx3 rf hm hf1 hrz|rfl) ?_|refine And.intro (by first|exact⟨Int.natCast_nonneg _,by omega⟩|exact hfl2|exact(by rw[hl2];simp;omega)|exact hcl2|assumption|exact⟨by kernel_rfl,rfl⟩|decide|omega) ?_|refine knownB hne ?_|rw[scal_rows]|rw[hbq]|rw[hl2]|refine HpP.force ?_);conv=>whnf)
    have hFv:=hrv f hf1
    have hdv:∀ j,j<m-1->Vl w (dlt rf f j):=fun j hj=>by
     unfold dlt
     split
     ·exact hrv j qad
     ·exact hrv (j+1) qad
    have hdz:∀ j,m-1<=j->dlt rf f j=Ps.z0:=fun j hj=>by
     unfold dlt
     rw[if_neg qad,hrz (j+1) qad]
    rw[zwl hw.2 h_n hFv]at hf2
    generalize rf f=F at hFv hnx hf2⊢
    generalize dlt rf f=d at hdv hdz hnx⊢
    refine zaq pok (fun i=>⟨[(3,.sl 3 5 0 (w-m) (w-m) false),(4,.sl 2 4 0 (m-1) w false),(5,.ptr 4 1 0 0),(7,.ptr 5 5 0 0),(20,.d (iD w)),(21,.d (iD n)),(41,.d (iD (m-1:Nat))),(42,.d (iD i))],[(2,some (dblk 4 ((List.range w).map fun j=>Ps.l (if j<i then clrX F n (d j) else d j)))),(3,some (dblk 5 ((List.range (w-m)).map fun j=>fpL (of j)))),(4,some (.arr 1 [[.d (iD n)]])),(5,some (.arr 5 [(fpL (n,F)).map AV.d]))],6⟩) ((m-1)) (fun _=>True) (trivial) ?_ qah ?_ ?_
    ·exact qf2
    ·intro i A_i h_i I_i N_i
     have e_i:iadd .i64 (i:Int) 1=((i+1:Nat):Int):=zah qbl
     have hdi:=hdv i h_i
     have hiw:i<w:=qad
     have hb:(iand .i64 (ishr .i64 (d i).x (n:Int)) 1==1)=xB (d i) n:=by
      rw[<- bitI_x hw.2 h_n hdi,Bool.eq_iff_iff,decide_eq_true_iff,beq_iff_eq];rfl
     have hro:(fun j=>Ps.l (if j<i then clrX F n (d j) else d j)) i=Ps.l (d i):=by dsimp only;rw[if_neg (Nat.lt_irrefl i)]
     have hst:∀ j,(if j=i then Ps.l (clrX F n (d i)) else Ps.l (if j<i then clrX F n (d j) else d j))=Ps.l (if j<i+1 then clrX F n (d j) else d j):=fun j=>by
      by_cases e:j=i
      ·rw[if_pos e,if_pos qad,e]
      ·have:(j<i+1) ↔ (j<i):=by omega
       simp only[if_neg e,this]
     have hcx:clrX F n (d i)=if xB (d i) n=true then mulS (d i) F else d i:=rfl
     have ht2:=ze5 (G:=GG) hw (d i) [F] true qc3 hdi qer
     have hme:([F].foldl mulS (d i))=mulS (d i) F:=rfl
     rw[hme]at ht2
     generalize mulS (d i) F=mm at ht2 hcx
     conv=>whnf
     repeat (refine LookP.mk _ rfl ?_;conv=>whnf)
     intro t ht
     cases t
     ·exact qbh
     conv=>whnf
     cases hbb:xB (d i) n with
     | false =>
      rw[hbb]at hb hcx
      rw[if_neg qag]at hcx
      have hsame:∀ j,Ps.l (if j<i then clrX F n (d j) else d j)=Ps.l (if j<i+1 then clrX F n (d j) else d j):=fun j=>by
       rw[<- hst j]
       by_cases e:j=i
       ·rw[if_pos e,if_neg qad,hcx,e]
       ·rw[if_neg e]
      repeat' first|((first|refine LookP.mk _ (by first|rfl|exact zb1 hiw hro) ?_|refine And.intro qbm ?_|refine knownB hb ?_|refine HpP.force ?_);conv=>whnf)
      refine N_i _ ?_ ?_
      ·exact qbj
      ·refine zac qac ?_ ?_ trivial
       ·exact qai
       ·repeat' first|exact trivial|refine⟨⟨ltB rfl,_,rfl,by first|rfl|assumption|exact congrArg some (zbm hsame),by first|exact zae rfl|exact zaa _ _ _|exact zab rfl⟩,?_⟩
     | true =>
      rw[hbb]at hb hcx
      rw[if_pos rfl]at hcx
      rw[hcx]at hst
      have hst2:∀ j,(if j=i then [iD mm.w,iD mm.x,iD mm.z,iD mm.p] else Ps.l (if j<i then clrX F n (d j) else d j))=Ps.l (if j<i+1 then clrX F n (d j) else d j):=hst
      repeat' first|((first|refine LookP.mk _ (by first|rfl|exact zb1 hiw hro) ?_|refine ShlP.mk _ (by first|exact zf3 (x:=[_,_,_,_]) hiw|(simp only[List.set,over,List.take,List.drop,List.append_eq,List.nil_append,List.cons_append,List.length];rfl)|rfl) ?_|refine And.intro qbm ?_|refine knownB hb ?_|refine zam ht2 ?_|refine HpP.force ?_);conv=>whnf)
      refine N_i _ ?_ ?_
      ·exact qbj
      ·refine zac qac ?_ ?_ trivial
       ·exact qai
       ·repeat' first|exact trivial|refine⟨⟨ltB rfl,_,rfl,by first|rfl|assumption|exact congrArg some (zbm hst2),by first|exact zae rfl|exact zaa _ _ _|exact zab rfl⟩,?_⟩
    ·intro A_last I_last
     have e2:(fun j=>Ps.l (if j<m-1 then clrX F n (d j) else d j))=fun j=>Ps.l (clrX F n (d j)):=funext fun j=>by
      by_cases e:j<m-1
      ·rw[if_pos e]
      ·rw[if_neg e,hdz j qad,clrX_z0]
     rw[e2]
     conv=>whnf
     repeat (refine LookP.mk _ rfl ?_;conv=>whnf)
     intro t ht
     cases t
     rotate_left
     ·exact qbh
     conv=>whnf
     skip
     refine zaq pok (fun k=>⟨[(3,.sl 3 5 0 (w-m) (w-m) false),(4,.sl 2 4 0 (m-1) w false),(5,.ptr 4 1 0 0),(7,.ptr 5 5 0 0),(20,.d (iD w)),(21,.d (iD n)),(67,.d (iD (w-m:Nat))),(68,.d (iD k))],[(2,some (dblk 4 ((List.range w).map fun j=>Ps.l (clrX F n (d j))))),(3,some (dblk 5 ((List.range (w-m)).map fun j=>fpL (if j<k then((of j).1,clrX F n (of j).2) else of j)))),(4,some (.arr 1 [[.d (iD n)]])),(5,some (.arr 5 [(fpL (n,F)).map AV.d]))],6⟩) ((w-m)) (fun _=>True) (trivial) ?_ qah ?_ ?_
     ·exact qf2
     ·intro k A_k h_k I_k N_k
      have e_k:iadd .i64 (k:Int) 1=((k+1:Nat):Int):=zah qbl
      have hok':=(hov k h_k).1
      have hb:(iand .i64 (ishr .i64 (of k).2.x (n:Int)) 1==1)=xB (of k).2 n:=by
       rw[<- bitI_x hw.2 h_n hok',Bool.eq_iff_iff,decide_eq_true_iff,beq_iff_eq];rfl
      have hro:(fun j=>fpL (if j<k then((of j).1,clrX F n (of j).2) else of j)) k=fpL (of k):=by dsimp only;rw[if_neg (Nat.lt_irrefl k)]
      have hst:∀ j,(if j=k then fpL ((of k).1,clrX F n (of k).2) else fpL (if j<k then((of j).1,clrX F n (of j).2) else of j))=fpL (if j<k+1 then((of j).1,clrX F n (of j).2) else of j):=fun j=>by
       by_cases e:j=k
       ·rw[if_pos e,if_pos qad,e]
       ·have:(j<k+1) ↔ (j<k):=by omega
        simp only[if_neg e,this]
      have hcx:clrX F n (of k).2=if xB (of k).2 n=true then mulS (of k).2 F else(of k).2:=rfl
      have ht2:=ze5 (G:=GG) hw (of k).2 [F] true qc3 hok' qer
      have hme:([F].foldl mulS (of k).2)=mulS (of k).2 F:=rfl
      rw[hme]at ht2
      generalize mulS (of k).2 F=mm at ht2 hcx
      conv=>whnf
      repeat (refine LookP.mk _ rfl ?_;conv=>whnf)
      intro t ht
      cases t
      ·exact qbh
      conv=>whnf
      cases hbb:xB (of k).2 n with
      | false =>
       rw[hbb]at hb hcx
       rw[if_neg qag]at hcx
       have hsame:∀ j,fpL (if j<k then((of j).1,clrX F n (of j).2) else of j)=fpL (if j<k+1 then((of j).1,clrX F n (of j).2) else of j):=fun j=>by
        rw[<- hst j]
        by_cases e:j=k
        ·rw[if_pos e,if_neg qad,hcx,e]
        ·rw[if_neg e]
       repeat' first|((first|refine LookP.mk _ (by first|rfl|exact zb1 h_k hro) ?_|refine And.intro qbm ?_|refine knownB hb ?_|refine HpP.force ?_);conv=>whnf)
       refine N_k _ ?_ ?_
       ·exact qbj
       ·refine zac qac ?_ ?_ trivial
        ·exact qaj
        ·repeat' first|exact trivial|refine⟨⟨ltB rfl,_,rfl,by first|rfl|assumption|exact congrArg some (zwg hsame),by first|exact zae rfl|exact zaa _ _ _|exact zab rfl⟩,?_⟩
      | true =>
       rw[hbb]at hb hcx
       rw[if_pos rfl]at hcx
       rw[hcx]at hst
       have hst2:∀ j,(if j=k then [iD ((of k).1:Int),iD mm.w,iD mm.x,iD mm.z,iD mm.p] else fpL (if j<k then((of j).1,clrX F n (of j).2) else of j))=fpL (if j<k+1 then((of j).1,clrX F n (of j).2) else of j):=hst
       repeat' first|((first|refine LookP.mk _ (by first|rfl|exact zb1 h_k hro) ?_|refine ShlP.mk _ (by first|exact zf3 (x:=[_,_,_,_,_]) h_k|(simp only[List.set,over,List.take,List.drop,List.append_eq,List.nil_append,List.cons_append,List.length];rfl)|rfl) ?_|refine And.intro qbm ?_|refine knownB hb ?_|refine zam ht2 ?_|refine HpP.force ?_);conv=>whnf)
       refine N_k _ ?_ ?_
       ·exact qbj
       ·refine zac qac ?_ ?_ trivial
        ·exact qaj
        ·repeat' first|exact trivial|refine⟨⟨ltB rfl,_,rfl,by first|rfl|assumption|exact congrArg some (zwg hst2),by first|exact zae rfl|exact zaa _ _ _|exact zab rfl⟩,?_⟩
     ·intro A_last I_last
      rw[hnx]at N_n
      dsimp only at N_n
      have eW:w-(m-1)=w-m+1:=qad
      have hsn:(List.range (w-m+1)).map (fun j=>fpL (if j<w-m then((of j).1,clrX F n (of j).2) else(n,F)))=((List.range (w-m)).map fun j=>fpL (if j<w-m then((of j).1,clrX F n (of j).2) else of j))++[fpL (n,F)]:=by
       rw[List.range_succ,List.map_append]
       congr 1
       ·refine List.map_congr_left fun j hj=>?_
        rw[if_pos (List.mem_range.1 hj),if_pos (List.mem_range.1 hj)]
       ·simp only[List.map_cons,List.map_nil]
        rw[if_neg (Nat.lt_irrefl _)]
      rw[eW,hsn]at N_n
      have hql:((List.range (w-m)).map fun j=>fpL (if j<w-m then((of j).1,clrX F n (of j).2) else of j)).length=w-m:=qc3
      generalize ((List.range (w-m)).map fun j=>fpL (if j<w-m then((of j).1,clrX F n (of j).2) else of j))=Q at hql N_n⊢
      have hqm:(2*(w-m+1)+192)*40<=281474976710656:=qad
      conv=>whnf
      repeat (refine LookP.mk _ rfl ?_;conv=>whnf)
      intro t ht
      cases t
      rotate_left
      ·exact qbh
      conv=>whnf
      repeat' first|((first|refine LookP.mk _ rfl ?_|refine ShlP.mk _ qaa ?_|refine And.intro (by first|exact Nat.le_refl _|exact⟨by rw[List.length_map];exact hql,by decide,hqm⟩|assumption|exact⟨by kernel_rfl,rfl⟩|decide|omega) ?_|rw[nbeq]|refine HpP.force ?_);conv=>whnf)
      refine N_n _ ?_ ?_
      ·exact qbj
      ·first|refine zav [(3,7)] ?_ ?_ ?_ trivial|refine zap [(3,7)] rfl rfl ?_ ?_ ?_ trivial
       ·exact qav
       ·repeat' first|exact trivial|refine⟨⟨ltB rfl,_,rfl,by first|rfl|assumption|exact zag rfl (by first|rfl|assumption|exact zag rfl (congrArg some (zax rfl)))|exact zag rfl (congrArg some (zax rfl)),by first|exact zae rfl|exact zaa _ _ _|exact zab rfl⟩,?_⟩
       ·exact qaf
   ·exact qfk
 ·intro A_last I_last
  conv=>whnf
  repeat (refine LookP.mk _ rfl ?_;conv=>whnf)
  intro t ht
  cases t
  rotate_left
  ·exact qbh
  conv=>whnf
  skip
  refine fin ⟨3,?_,?_⟩
  ·rw[List.length_map,List.length_range]
  ·rw[List.map_map];rfl
theorem flips96{w:Nat}{l:List Ps}(hw:1<=w/\w<=12)(hlen:l.length=w)(hv:∀ q,q∈l->Vl w q)(hG:Good (l.map nf)):PC Pr GG 96 [wkD w l] (fpD (flA w (flN w l w)) false):=by
 refine pc_two (za3 Tryz.func96 chk96) (zbc (flips96a hw hlen hv hG) ?_)
 rintro v H _ ⟨nm,rfl,hg⟩
 exact zg9 hg qc3
end Go.Tz
namespace Go.Tz
open Go Go.AL Go.Proofs Go.Ma
theorem zq8{w n o:Nat}(hw:1<=w/\w<=12)(hn:n<w)(ho:o<=1)(F:FuncId){rf:Nat->Ps}{a0:Nat}{R:List Nat}(hpv:Vl w (zP w n o))(hvl:∀ j,j<w->Vl w (rf j))(hA:antL (zP w n o) rf w=a0::R)
  (hx2:PC Pr GG 107 [.agg [iD w,.sl ((List.range w).map fun j=>Ps.l (rf j)) true],(zP w n o).d] (iD 0)) :
  ACall Pr GG 136 [.ptr 2 3 0 0,.d (iD n),.d (iD o)] [(2,some (wkF w 10 F)),(10,some (dblk 4 ((List.range w).map fun j=>Ps.l (rf j))))] 12 fun v H n'=>v = .d (.tup [iD 1,iD 0])/\H.get 2=some (wkF w 12 F)/\H.get 12=some (dblk 4 ((redRows (rowsL w (prjF rf (zP w n o) a0 R)) (2*w)).map Ps.l))/\n'=13:=by
 have hsh:ishl .i64 1 (n:Int)=((2^n:Nat):Int):=zcg qad
 have him:imul .i64 2 (o:Int)=((2*o:Nat):Int):=zet (a:=2) qad
 have hPv:=zs4 hw.2 hvl hpv (zha hA).1 (R:=R)
 have hcan:=zi3 (G:=GG) hw (rowsL w (prjF rf (zP w n o) a0 R)) true qbo (fun q hq=>by
  obtain⟨j,hj,rfl⟩:=List.mem_map.1 hq
  exact hPv j (List.mem_range.1 hj))
 obtain⟨sp1,sp2,sp3,sp4⟩:=zha hA
 have hno:(∀ j,j<w->comV (zP w n o) (rf j)=true)->False:=fun h=>by
  have:=h a0 sp1
  rw[sp2]at this;cases this
 have hcan2:PO Pr GG 105 [.agg [iD w,.sl ((List.range w).map fun j=>Ps.l (prjF rf (zP w n o) a0 R j)) true]] (.agg [.d (iD w),.sl 0 4 0 w w true]) [(0,some (dblk 4 ((redRows (rowsL w (prjF rf (zP w n o) a0 R)) (2*w)).map Ps.l)))] 1:=by
  have eR:(rowsL w (prjF rf (zP w n o) a0 R)).map Ps.l=(List.range w).map fun j=>Ps.l (prjF rf (zP w n o) a0 R j):=by unfold rowsL;rw[List.map_map];rfl
  have eL:(rowsL w (prjF rf (zP w n o) a0 R)).length=w:=qc3
  rw[<- eR]
  rw[eL]at hcan
  exact hcan
 clear hcan
 have hRm:∀ j,j∈R ↔ j<w/\j≠a0/\comV (zP w n o) (rf j)=false:=fun j=>by
  have hm:j∈a0::R ↔ j<w/\comV (zP w n o) (rf j)=false:=by
   rw[<- hA];unfold antL;rw[List.mem_filter,List.mem_range];simp
  have hnd:(a0::R).Nodup:=qfh
  have haR:a0 ∉ R:=(List.nodup_cons.1 hnd).1
  constructor
  ·exact qhp
  ·exact qhf
 have hB0:chkCode Tryz.f136.ntmps (rgI Tryz.f136 0).2=true:=qah
 have hB1:chkCode Tryz.f136.ntmps (rgI Tryz.f136 1).2=true:=qah
 refine zaz (za4 pok Tryz.func136 zkc (K:=fun v H m=>v = .d (.tup [iD 1,iD 0])/\H.get 2=some (wkF w 24 F)/\H.get 24=some (dblk 4 ((redRows (rowsL w (prjF rf (zP w n o) a0 R)) (2*w)).map Ps.l))) ?_) ?_
 ·conv=>whnf
  repeat' first|((first|refine LookP.mk _ (by first|rfl|exact lendW rfl qc3) ?_|refine ShlP.mk _ qaa ?_|refine And.intro qbi ?_|rw[hsh]|rw[him]|refine zdl (l:=[10]) (zez rfl rfl (show _=some (dblk 4 ((List.range w).map fun j=>Ps.l (rf j))) from rfl)) ?_|refine zam hx2 ?_|refine zi6 rfl ?_|refine HpP.force ?_);conv=>whnf)
  refine zbb pok Tryz.func195 zwk ?_
  conv=>whnf
  skip
  refine zbb pok Tryz.func247 zwj ?_
  conv=>whnf
  repeat' first|(refine LookP.mk _ rfl ?_;conv=>whnf)
  refine zaq pok (fun i=>⟨[(0,.yld 18),(4,.d (.fn 114 [.agg [iD w,iD 0,iD ((2^n:Nat):Int),iD ((2*o:Nat):Int)]] [])),(14,.sl 10 4 0 w w true),(15,.d (iD w)),(16,.d (iD i))],[(2,some (wkF w 10 F)),(10,some (dblk 4 ((List.range w).map fun j=>Ps.l (rf j)))),(12,some (.arr 1 [[.ptr 2 3 0 0]])),(13,some (.arr 4 [[.d (iD w),.d (iD 0),.d (iD ((2^n:Nat):Int)),.d (iD ((2*o:Nat):Int))]])),(14,some (.arr 1 [[.d (iD (-1))]])),(15,some (.arr 1 [[.ptr 2 3 0 0]])),(16,some (.arr 4 [[.d (iD w),.d (iD 0),.d (iD ((2^n:Nat):Int)),.d (iD ((2*o:Nat):Int))]])),(17,some (.raw (.deferred (some [])))),(18,some (.lp [(34,.fn 247 [] [.ptr 16 4 0 0,.ptr 15 1 0 0]),(33,.d (.agg [iD w,iD 0,iD ((2^n:Nat):Int),iD ((2*o:Nat):Int)])),(32,.ptr 2 3 0 0),(9,.ptr 14 1 0 0),(30,.d (.bool false)),(31,.d (.bool false)),(28,.d (.bool false)),(29,.d (.bool false)),(27,.d (iD 0)),(26,.d (.agg [iD w,iD 0,iD ((2^n:Nat):Int),iD ((2*o:Nat):Int)])),(25,.agg [.d (iD w),.sl 10 4 0 w w true]),(24,.ptr 2 3 0 0),(23,.ptr 2 3 0 0),(22,.ptr 2 3 0 0),(8,.ptr 13 4 0 0),(21,.d (.agg [iD w,iD 0,iD ((2^n:Nat):Int),iD ((2*o:Nat):Int)])),(20,.d (iD ((2*o:Nat):Int))),(19,.d (iD o)),(18,.d (iD ((2^n:Nat):Int))),(17,.d (iD n)),(16,.d (iD w)),(15,.ptr 2 3 0 0),(14,.ptr 2 3 0 0),(13,.ptr 2 3 0 0),(12,.ptr 2 3 0 0),(7,.d (iD 0)),(6,.d (iD 0)),(3,.ptr 12 1 0 0),(0,.ptr 2 3 0 0),(1,.d (iD n)),(2,.d (iD o))] Tryz.f136.ntmps #[35] (rgI Tryz.f136 0).1 (rgI Tryz.f136 0).2 .ready none 17))],19⟩) (w) (fun i=>∀ j,j<i->comV (zP w n o) (rf j)=true) qad ?_ qah ?_ ?_
  ·refine zac qac ?_ ?_ trivial
   ·exact qae
   ·exact qak
  ·intro i A_i h_i I_i N_i
   have e_i:iadd .i64 (i:Int) 1=((i+1:Nat):Int):=zah qbl
   have hc:=zlb (G:=GG) hw hpv (hvl i h_i)
   cases hb:comV (zP w n o) (rf i) with
   | true =>
    rw[hb]at hc
    conv=>whnf
    repeat (refine LookP.mk _ rfl ?_;conv=>whnf)
    intro t ht
    cases t
    ·exact qbh
    conv=>whnf
    repeat' first|((first|refine LookP.mk _ qde ?_|refine ShlP.mk _ qaa ?_|refine And.intro qbi ?_|refine zak hc ?_|refine HpP.force ?_);conv=>whnf)
    refine N_i _ ?_ ?_
    ·exact qdh
    ·refine zac qac ?_ ?_ trivial
     ·exact qai
     ·exact qak
   | false =>
    rw[hb]at hc
    have hia:i=a0:=by
     rcases Nat.lt_trichotomy i a0 with q|q|q
     ·have:=sp3 i q
      rw[hb]at this;cases this
     ·exact q
     ·have:=I_i a0 q
      rw[sp2]at this;cases this
    conv=>whnf
    repeat (refine LookP.mk _ rfl ?_;conv=>whnf)
    intro t ht
    cases t
    ·exact qbh
    conv=>whnf
    repeat' first|((first|refine LookP.mk _ qde ?_|refine ShlP.mk _ qaa ?_|refine And.intro qbi ?_|refine zak hc ?_|refine HpP.force ?_);conv=>whnf)
    refine za9 pok ?_
    conv=>whnf
    repeat' first|((first|refine LookP.mk _ rfl ?_|refine ShlP.mk _ qaa ?_|refine HpP.force ?_);conv=>whnf)
    refine zbb pok Tryz.func195 zwk ?_
    conv=>whnf
    skip
    refine zbb pok Tryz.func247 zwj ?_
    conv=>whnf
    repeat' first|(refine LookP.mk _ rfl ?_;conv=>whnf)
    refine zaq pok (fun m=>⟨[(0,.yld 23),(4,.d (.fn 114 [.agg [iD w,iD 0,iD ((2^n:Nat):Int),iD ((2*o:Nat):Int)]] [])),(14,.sl 10 4 0 w w true),(15,.d (iD w)),(16,.d (iD m))],[(2,some (wkF w 10 F)),(10,some (dblk 4 ((List.range w).map fun j=>Ps.l (prS (zP w n o) rf a0 m j)))),(12,some (.arr 1 [[.ptr 2 3 0 0]])),(13,some (.arr 4 [[.d (iD w),.d (iD 0),.d (iD ((2^n:Nat):Int)),.d (iD ((2*o:Nat):Int))]])),(14,some (.arr 1 [[.d (iD a0)]])),(17,some (.raw (.deferred (some [])))),(20,some (.arr 1 [[.ptr 2 3 0 0]])),(21,some (.arr 4 [[.d (iD w),.d (iD 0),.d (iD ((2^n:Nat):Int)),.d (iD ((2*o:Nat):Int))]])),(22,some (.raw (.deferred (some [])))),(23,some (.lp [(39,.fn 247 [] [.ptr 21 4 0 0,.ptr 20 1 0 0]),(38,.d (.agg [iD w,iD 0,iD ((2^n:Nat):Int),iD ((2*o:Nat):Int)])),(37,.ptr 2 3 0 0),(34,.fn 247 [] [.ptr 16 4 0 0,.ptr 15 1 0 0]),(33,.d (.agg [iD w,iD 0,iD ((2^n:Nat):Int),iD ((2*o:Nat):Int)])),(32,.ptr 2 3 0 0),(9,.ptr 14 1 0 0),(30,.d (.bool false)),(31,.d (.bool false)),(28,.d (.bool false)),(29,.d (.bool false)),(27,.d (iD 0)),(26,.d (.agg [iD w,iD 0,iD ((2^n:Nat):Int),iD ((2*o:Nat):Int)])),(25,.agg [.d (iD w),.sl 10 4 0 w w true]),(24,.ptr 2 3 0 0),(23,.ptr 2 3 0 0),(22,.ptr 2 3 0 0),(8,.ptr 13 4 0 0),(21,.d (.agg [iD w,iD 0,iD ((2^n:Nat):Int),iD ((2*o:Nat):Int)])),(20,.d (iD ((2*o:Nat):Int))),(19,.d (iD o)),(18,.d (iD ((2^n:Nat):Int))),(17,.d (iD n)),(16,.d (iD w)),(15,.ptr 2 3 0 0),(14,.ptr 2 3 0 0),(13,.ptr 2 3 0 0),(12,.ptr 2 3 0 0),(7,.d (iD 0)),(6,.d (iD 0)),(3,.ptr 12 1 0 0),(0,.ptr 2 3 0 0),(1,.d (iD n)),(2,.d (iD o))] Tryz.f136.ntmps #[40] (rgI Tryz.f136 1).1 (rgI Tryz.f136 1).2 .ready none 22))],24⟩) (w) (fun _=>True) (trivial) ?_ qah ?_ ?_
    ·refine zac qac ?_ ?_ trivial
     ·exact qae
     ·exact qbf
    ·exact qf1
    ·intro A_last I_last
     have hfin:∀ j,(if j=a0 then [iD w,iD 0,iD ((2^n:Nat):Int),iD ((2*o:Nat):Int)] else Ps.l (prS (zP w n o) rf a0 w j))=Ps.l (prjF rf (zP w n o) a0 R j):=fun j=>by
      unfold prjF prjR prS
      by_cases h:j=a0
      ·rw[if_pos h,if_pos h];rfl
      ·exact qg0
     have hgA:(fun j=>Ps.l (prS (zP w n o) rf a0 w j)) a0=Ps.l (rf a0):=by dsimp only;rw[zu8]
     generalize prS (zP w n o) rf a0 w=g at hfin hgA
     generalize prjF rf (zP w n o) a0 R=g' at hfin hcan2⊢
     conv=>whnf
     repeat (refine LookP.mk _ rfl ?_;conv=>whnf)
     intro t ht
     cases t
     rotate_left
     ·exact qbh
     conv=>whnf
     repeat' first|((first|refine LookP.mk _ qd9 ?_|refine ShlP.mk _ qcd ?_|refine And.intro qbm ?_|refine zdl (l:=[10]) (zez rfl rfl (show _=some (dblk 4 ((List.range w).map fun j=>Ps.l (g' j))) from congrArg some (zbm hfin))) ?_|refine zor hcan2 ?_|rw[ziw]|refine ShhP.mk _ rfl ?_|refine HpP.force ?_);conv=>whnf)
     refine fin ⟨rfl,rfl,?_⟩
     show some (Blk.ren _ (dblk 4 _))=_
     rw[zbf]
  ·intro A_last I_last
   exact(hno I_last).elim
 ·exact qgg
abbrev mAt(w:Nat)(F:FuncId)(L:List Ps):AHeap:=[(2,some (wkF w 10 F)),(10,some (dblk 4 (L.map Ps.l)))]
theorem zj6{w n o:Nat}{L:List Ps}(hs:SOk w L)(hn:n<w)(ho:o<=1)(F:FuncId){e r:Int}(he:expP L (zP w n o)=e)(h:(e=1/\r=0)\/(e = -1/\r=6)) :
  ACall Pr GG 136 [.ptr 2 3 0 0,.d (iD n),.d (iD o)] (mAt w F L) 12 (mK w F (rV 0 r) 10 L):=by
 have hlen:=hs.len
 have hhi:=hs.hi
 have hpv:=zkf hn ho
 have hx:=zfs hs true hpv
 rw[he]at hx
 have hsh:ishl .i64 1 (n:Int)=((2^n:Nat):Int):=zcg qad
 have him:imul .i64 2 (o:Int)=((2*o:Nat):Int):=zet (a:=2) qad
 have hx2:PC Pr GG 107 [.agg [iD w,.sl (L.map Ps.l) true],(zP w n o).d] (iD e):=hx
 clear he hx
 rcases h with⟨rfl,rfl⟩|⟨rfl,rfl⟩
 ·refine zaz (za4 pok Tryz.func136 zkc (K:=fun v H m=>v=rV 0 0/\H.get 2=some (wkF w 10 F)/\H.get 10=some (dblk 4 (L.map Ps.l))) ?_) ?_
  ·conv=>whnf
   repeat' first|((first|refine LookP.mk _ qb6 ?_|refine ShlP.mk _ qaa ?_|refine And.intro qbi ?_|rw[hsh]|rw[him]|refine zdl (l:=[10]) (zez rfl rfl (show _=some (dblk 4 (L.map Ps.l)) from rfl)) ?_|refine zam hx2 ?_|refine zfh ?_|refine HpP.force ?_);conv=>whnf)
   exact fin ⟨rfl,rfl,rfl⟩
  ·rintro v H m ⟨rfl,h2,h3⟩
   refine⟨rV 0 0,mAt w F L,13,?_,rfl,rfl,rfl,rfl⟩
   first|refine zav [(2,2),(10,10)] ?_ ?_ ?_ trivial|refine zap [(2,2),(10,10)] rfl rfl ?_ ?_ ?_ trivial
   ·exact qae
   ·exact qap
   ·exact qaf
 ·refine zaz (za4 pok Tryz.func136 zkc (K:=fun v H m=>v=rV 0 6/\H.get 2=some (wkF w 10 F)/\H.get 10=some (dblk 4 (L.map Ps.l))) ?_) ?_
  ·conv=>whnf
   repeat' first|((first|refine LookP.mk _ qb6 ?_|refine ShlP.mk _ qaa ?_|refine And.intro qbi ?_|rw[hsh]|rw[him]|refine zdl (l:=[10]) (zez rfl rfl (show _=some (dblk 4 (L.map Ps.l)) from rfl)) ?_|refine zam hx2 ?_|refine zfh ?_|refine zi6 rfl ?_|refine HpP.force ?_);conv=>whnf)
   exact fin ⟨rfl,rfl,rfl⟩
  ·rintro v H m ⟨rfl,h2,h3⟩
   refine⟨rV 0 6,mAt w F L,13,?_,rfl,rfl,rfl,rfl⟩
   first|refine zav [(2,2),(10,10)] ?_ ?_ ?_ trivial|refine zap [(2,2),(10,10)] rfl rfl ?_ ?_ ?_ trivial
   ·exact qae
   ·exact qap
   ·exact qaf
theorem zq7{w n o:Nat}{L:List Ps}(hs:SOk w L)(hn:n<w)(ho:o<=1)(F:FuncId){a0:Nat}{R:List Nat}(he:expP L (zP w n o)=0)(hA:antL (zP w n o) (fun j=>L.getD j Ps.z0) w=a0::R) :
  ACall Pr GG 136 [.ptr 2 3 0 0,.d (iD n),.d (iD o)] (mAt w F L) 12 (mK w F (rV 1 0) 12 (redRows (rowsL w (prjF (fun j=>L.getD j Ps.z0) (zP w n o) a0 R)) (2*w))):=by
 have hlen:=hs.len
 have hpv:=zkf hn ho
 have hx:=zfs hs true hpv
 rw[he]at hx
 have hvl:∀ j,j<w->Vl w (L.getD j Ps.z0):=fun j hj=>by
  rw[List.getD_eq_getElem?_getD,List.getElem?_eq_getElem (by rw[hlen];exact hj),Option.getD_some]
  exact hs.vl _ (List.getElem_mem _)
 have hLm:L.map Ps.l=(List.range w).map fun j=>Ps.l ((fun j=>L.getD j Ps.z0) j):=by
  have:=zlp L hlen
  conv=>lhs;rw[<- this]
  unfold rowsL;rw[List.map_map];rfl
 have hx2:PC Pr GG 107 [.agg [iD w,.sl (L.map Ps.l) true],(zP w n o).d] (iD 0):=hx
 unfold mAt
 rw[hLm]at hx2⊢
 exact zq8 ⟨hs.lo,hs.hi⟩ hn ho F hpv hvl hA hx2
structure WCt (f:FuncId) (args:List AV) (w:Nat) (F:FuncId) (L:List Ps) (v:AV) (nm:Nat) (R:List Ps):Prop where
 fn:IsFn Pr f
 call:ACall Pr GG f args (mAt w F L) 12 (mK w F v nm R)
theorem zw5{f:FuncId}{args:List AV}{w nm nx:Nat}{F:FuncId}{L R:List Ps}{v:AV}{H:AHeap}{k:AV->AHeap->Nat->Prop}(h:WCt f args w F L v nm R)(hn:nx<=12)
  (h2:H.get 2=some (wkF w 10 F)) (h3:H.get 10=some (dblk 4 (L.map Ps.l))) (hk:k v ((2,some (wkF w nm F))::(nm,some (dblk 4 (R.map Ps.l)))::AHeap.del H 10) 13):CallVC Pr GG f args H nx k:=by
 refine⟨h.fn,zbj h.call hn (fun m b hg=>?_) ?_⟩
 ·exact qhb
 ·rintro v' H1 n' ⟨rfl,g2,g3,rfl⟩
  refine⟨_,fun m b hg=>?_,hk⟩
  rw[zaj,zaj]at hg
  by_cases e2:m=2
  ·exact qcv
  ·rw[if_neg e2]at hg
   by_cases e3:m=nm
   ·exact qcw
   ·rw[if_neg e3,za8]at hg
    by_cases e4:m=10
    ·exact qfm
    ·exact qgl
theorem meast{w n o:Nat}{l r:List Ps}(h:SOk w l)(h':SOk w r)(hg:SameG (r.map nf) (l.map nf))(hn:n<w)(ho:o<=1)(F:FuncId) :
  (expR w l (zP w n o)=1/\WCt 136 (wA n o) w F r (rV 0 0) 10 r)\/(expR w l (zP w n o) = -1/\WCt 136 (wA n o) w F r (rV 0 6) 10 r) ∨
  (expR w l (zP w n o)=0/\SOk w (prjL (zP w n o) l)/\WCt 136 (wA n o) w F r (rV 1 0) 12 (redRows (prjL (zP w n o) l) (2*w))):=by
 have hpv:=zkf hn ho
 have hok:=zr6 h.hi hn ho
 obtain⟨e1,e2⟩:=ztg h h' hg hpv hok
 have hf:=za3 Tryz.func136 zkc
 rcases zcs (zgh h hpv hok) with⟨a,_⟩|⟨a,_⟩|⟨a,_⟩
 ·exact .inl ⟨a,hf,zj6 h' hn ho F (e1.trans a) (.inl ⟨rfl,rfl⟩)⟩
 ·exact .inr (.inl ⟨a,hf,zj6 h' hn ho F (e1.trans a) (.inr ⟨rfl,rfl⟩)⟩)
 ·obtain⟨b,a0,R,hA,_,hR⟩:=e2 a
  refine .inr (.inr ⟨a,b,hf,?_⟩)
  rw[<- hR]
  exact zq7 h' hn ho F (e1.trans a) hA
end Go.Tz
namespace Go.Tz
open Go Go.AL Go.Proofs Go.Ma
theorem zjd{f:FuncId}{args:List AV}{w nx:Nat}{F:FuncId}{L R:List Ps}{a b:Int}{H:AHeap}{k:AV->AHeap->Nat->Prop}(h:WC f args w F L (rV a b) 3 R)(hn:nx<=12)
  (h2:H.get 2=some (wkF w 3 F)) (h3:H.get 3=some (dblk 4 (L.map Ps.l))) (hk:k (rV a b) ((2,some (wkF w 3 F))::(3,some (dblk 4 (R.map Ps.l)))::AHeap.del H 3) 12):CallVC Pr GG f args H nx k:=by
 refine⟨h.fn,zbj (zaz (K':=fun v' H n'=>v'=rV a b/\H.get 2=some (wkF w 3 F)/\H.get 3=some (dblk 4 (R.map Ps.l))/\n'=12) h.call ?_) hn (fun m b hg=>?_) ?_⟩
 ·rintro v H m ⟨rfl,q2,q3,_⟩
  refine⟨rV a b,mA w F R,12,?_,rfl,rfl,rfl,rfl⟩
  first|refine zav [(2,2),(3,3)] ?_ ?_ ?_ trivial|refine zap [(2,2),(3,3)] rfl rfl ?_ ?_ ?_ trivial
  ·exact qae
  ·exact qbg
  ·exact qaf
 ·exact qhc
 ·rintro v' H1 n' ⟨rfl,g2,g3,rfl⟩
  refine⟨_,fun m b hg=>?_,hk⟩
  rw[zaj,zaj]at hg
  by_cases e2:m=2
  ·exact qcv
  ·rw[if_neg e2]at hg
   by_cases e3:m=3
   ·exact qcw
   ·rw[if_neg e3,za8]at hg
    by_cases e4:m=3
    ·exact qfm
    ·exact qgl
theorem zhn{f:FuncId}{args:List AV}{w nx:Nat}{F:FuncId}{L R:List Ps}{a b:Int}{H:AHeap}{k:AV->AHeap->Nat->Prop}(h:WCt f args w F L (rV a b) 10 R)(hn:nx<=12)
  (h2:H.get 2=some (wkF w 10 F)) (h3:H.get 10=some (dblk 4 (L.map Ps.l))) (hk:k (rV a b) ((2,some (wkF w 10 F))::(10,some (dblk 4 (R.map Ps.l)))::AHeap.del H 10) 12):CallVC Pr GG f args H nx k:=by
 refine⟨h.fn,zbj (zaz (K':=fun v' H n'=>v'=rV a b/\H.get 2=some (wkF w 10 F)/\H.get 10=some (dblk 4 (R.map Ps.l))/\n'=12) h.call ?_) hn (fun m b hg=>?_) ?_⟩
 ·rintro v H m ⟨rfl,q2,q3,_⟩
  refine⟨rV a b,mAt w F R,12,?_,rfl,rfl,rfl,rfl⟩
  first|refine zav [(2,2),(10,10)] ?_ ?_ ?_ trivial|refine zap [(2,2),(10,10)] rfl rfl ?_ ?_ ?_ trivial
  ·exact qae
  ·exact qbg
  ·exact qaf
 ·exact qhb
 ·rintro v' H1 n' ⟨rfl,g2,g3,rfl⟩
  refine⟨_,fun m b hg=>?_,hk⟩
  rw[zaj,zaj]at hg
  by_cases e2:m=2
  ·exact qcv
  ·rw[if_neg e2]at hg
   by_cases e3:m=10
   ·exact qcw
   ·rw[if_neg e3,za8]at hg
    by_cases e4:m=10
    ·exact qfm
    ·exact qgl
def chS(w:Nat)(l:List Ps):Nat->Bool
 | 0=>false
 | i+1=>chS w l i||decide (expR w (lsS w l i).1 (zP w (w-1-i) 0)=0)
theorem zx4{w:Nat}{l:List Ps}{i:Nat}:chS w l (i+1)=(chS w l i||decide (expR w (lsS w l i).1 (zP w (w-1-i) 0)=0)):=rfl
theorem exp_one{w n:Nat}{l:List Ps}(h:SOk w l)(hn:n<w)(e:expR w l (zP w n 0) = -1):expR w l (zP w n 1)=1:=by
 have h0:=zkf (w:=w) (o:=0) hn qag
 have h1:=zkf (w:=w) (o:=1) hn qag
 rcases zcs (zgh h h0 (zr6 h.hi hn qag)) with⟨a,_⟩|⟨_,b⟩|⟨a,_⟩
 ·rw[e]at a;cases a
 ·rw[zP_neg]at b
  exact(zgh h h1 (zr6 h.hi hn qag)).pos b
 ·rw[e]at a;cases a
theorem chk97:chkFn Tryz.f97=true:=qah
theorem chk186:chkFn Tryz.f186=true:=qah
theorem chk243:chkFn Tryz.f243=true:=qah
theorem chk184:chkFn Tryz.f184=true:=qah
theorem chk241:chkFn Tryz.f241=true:=qah
theorem zxq(w:Int):PC Pr GG 186 [iD w] (.fn 243 [] [.rop [iD w] 0]):=by
 refine zck (za3 Tryz.func186 chk186) (zbc (K:=fun v H _=>∃ nm,v = .fn 243 [] [.ptr nm 1 0 0]/\H.get nm=some (.arr 1 [[iD w].map AV.d])) (za4 pok Tryz.func186 chk186 ?_) ?_)
 ·conv=>whnf
  skip
  exact fin ⟨_,rfl,rfl⟩
 ·rintro v H _ ⟨nm,rfl,hg⟩
  exact zjx (zjw hg)
theorem num_snoc(i:Nat):numD (List.range (i+1))=numD (List.range i)++[[iD i]]:=by
 unfold numD;rw[List.range_succ,List.map_append];rfl
theorem num_len(i:Nat):(numD (List.range i)).length=i:=by simp[numD]
theorem zx0{w:Nat}(hw:w<=12):PO Pr GG 185 [.fn 243 [] [.rop [iD w] 0]] (.sl 0 1 0 w w false) [(0,some (dblk 1 (numD (List.range w))))] 1:=by
 refine⟨za3 Tryz.func185 chk185,zaz (K:=fun v H _=>∃ nm,v = .sl nm 1 0 w w false/\H.get nm=some (dblk 1 (numD (List.range w)))) (za4 pok Tryz.func185 chk185 ?_) ?_⟩
 ·conv=>whnf
  skip
  refine zbb pok Tryz.func242 chk242 ?_
  conv=>whnf
  skip
  refine zbb pok Tryz.func243 chk243 ?_
  conv=>whnf
  skip
  refine zaq pok (fun i=>⟨[(0,.yld 2),(4,.d (iD w)),(5,.d (iD i))],[(0,some (.arr 1 [[.sl 3 1 0 i i false]])),(1,some (.raw (.deferred (some [])))),(2,some (.lp [(6,.d (.fn 243 [] [.rop [iD w] 0])),(4,.d (.sl [] true)),(2,.ptr 0 1 0 0),(0,.d (.sl [] true)),(1,.d (.fn 243 [] [.rop [iD w] 0]))] Tryz.f242.ntmps #[7] (rgA Tryz.f242) (rgB Tryz.f242) .ready none 1)),(3,some (dblk 1 (numD (List.range i))))],4⟩) (w) (fun _=>True) (trivial) ?_ qah ?_ ?_
  ·refine Sub.trans (sub_nilH (nm:=0) (S:=1) (Nat.le_of_ble_eq_true rfl) rfl) ?_
   refine zac qac ?_ ?_ trivial
   ·exact qae
   ·exact qak
  ·intro i A_i h_i I_i N_i
   have e_i:iadd .i64 (i:Int) 1=((i+1:Nat):Int):=zah qbl
   have h1:=num_snoc i
   have h2:=num_len i
   generalize numD (List.range (i+1))=m' at h1 N_i
   generalize numD (List.range i)=m at h1 h2⊢
   conv=>whnf
   repeat (refine LookP.mk _ rfl ?_;conv=>whnf)
   intro t ht
   cases t
   ·exact qbh
   conv=>whnf
   skip
   refine za9 pok ?_
   conv=>whnf
   repeat' first|((first|refine LookP.mk _ rfl ?_|refine ShlP.mk _ qaa ?_|(refine And.intro (by first|exact Nat.le_refl _|exact⟨by rw[List.length_map];exact h2,by decide,by show(2*(i+1)+192)*8<=281474976710656;omega⟩|assumption|exact⟨by kernel_rfl,rfl⟩|decide|omega) ?_)|rw[nbeq]|refine HpP.force ?_);conv=>whnf)
   refine N_i _ ?_ ?_
   ·exact qbj
   ·first|refine zav [(3,5)] ?_ ?_ ?_ trivial|refine zap [(3,5)] rfl rfl ?_ ?_ ?_ trivial
    ·exact qai
    ·repeat' first|exact trivial|refine⟨⟨ltB rfl,_,rfl,by first|rfl|assumption|exact zag rfl (by first|rfl|assumption|exact zag rfl (by rw[h1];exact congrArg some (zax rfl)))|exact zag rfl (by rw[h1];exact congrArg some (zax rfl)),by first|exact zae rfl|exact zaa _ _ _|exact zab rfl|exact trivial|exact⟨rfl,Nat.le_of_ble_eq_true rfl⟩⟩,?_⟩
    ·exact qaf
  ·intro A_last I_last
   conv=>whnf
   repeat (refine LookP.mk _ rfl ?_;conv=>whnf)
   intro t ht
   cases t
   rotate_left
   ·exact qbh
   conv=>whnf
   repeat' first|(refine LookP.mk _ rfl ?_;conv=>whnf)
   exact fin ⟨3,rfl,rfl⟩
 ·rintro v H n ⟨nm,rfl,hg⟩
  refine⟨_,_,1,?_,rfl,rfl,rfl⟩
  first|refine zav [(0,nm)] ?_ ?_ ?_ trivial|refine zap [(0,nm)] rfl rfl ?_ ?_ ?_ trivial
  ·exact qae
  ·exact qaz
  ·exact qaf
theorem least97a{w:Nat}{l:List Ps}(h:SOk w l):ACall Pr GG 97 [.d (wkD w l)] [] 2 fun v H _=>v = .d (iD ((lsS w l w).2:Nat)):=by
 have hw:1<=w/\w<=12:=⟨h.lo,h.hi⟩
 have hlen:=h.len
 have hop:=zov (G:=GG) hw l true qad h.vl
 rw[hlen]at hop
 have hrun:=fun i (hi:i<=w)=>(zvk h i hi).sok
 have hol0:=fun i (hi:i<=w)=>show(lsS w l i).2<2^w from Nat.lt_pow_two_of_testBit _ fun j hj=>(zvk h i hi).lo j (.inr hj)
 have hl0:redRows l (2*w)=(lsS w l 0).1:=rfl
 rw[hl0]at hop
 refine za4 pok Tryz.func97 chk97 ?_
 conv=>whnf
 have c1:=zxq w
 have c2:=zx0 hw.2
 repeat' first|((first|refine LookP.mk _ rfl ?_|refine ShlP.mk _ qaa ?_|refine zlx hop ?_|refine zak c1 ?_|refine zlx c2 ?_|refine HpP.force ?_);conv=>whnf)
 refine zbb pok Tryz.func184 chk184 ?_
 conv=>whnf
 skip
 refine zbb pok Tryz.func241 chk241 ?_
 conv=>whnf
 repeat' first|(refine LookP.mk _ rfl ?_;conv=>whnf)
 have hB:chkCode Tryz.f97.ntmps (rgB Tryz.f97)=true:=qah
 have hw1:isub .i64 (w:Int) 1=(w:Int)-1-((0:Nat):Int):=qfi
 refine zaq pok (fun i=>if chS w l i=true then⟨[(0,.yld 9),(1,.ptr 7 1 0 0),(3,.d (iD ((w:Int)-1-((i:Nat):Int))))],[(2,some (wkF w 10 136)),(10,some (dblk 4 ((lsS w l i).1.map Ps.l))),(4,some (.arr 1 [[.ptr 2 3 0 0]])),(5,some (.arr 1 [[.d (iD ((lsS w l i).2:Nat))]])),(6,some (dblk 1 (numD (List.range w)))),(7,some (.arr 1 [[.sl 6 1 0 w w false]])),(8,some (.raw (.deferred (some [])))),(9,some (.lp [(21,.fn 241 [] [.ptr 7 1 0 0]),(20,.sl 6 1 0 w w false),(19,.d (.fn 243 [] [.rop [iD w] 0])),(18,.d (iD w)),(17,.d (wkD w l)),(16,.d (wkD w l)),(15,.d (wkD w l)),(14,.d (wkD w l)),(4,.ptr 5 1 0 0),(3,.ptr 4 1 0 0),(13,.ptr 2 3 0 0),(12,.d (.agg [iD w,rowsD l true])),(11,.d (wkD w l)),(10,.d (wkD w l)),(9,.d (wkD w l)),(2,.d (iD 0)),(0,.d (wkD w l))] Tryz.f97.ntmps #[22,23] (rgA Tryz.f97) (rgB Tryz.f97) .ready none 8))],11⟩ else⟨[(0,.yld 9),(1,.ptr 7 1 0 0),(3,.d (iD ((w:Int)-1-((i:Nat):Int))))],[(2,some (wkF w 3 136)),(3,some (dblk 4 ((lsS w l i).1.map Ps.l))),(4,some (.arr 1 [[.ptr 2 3 0 0]])),(5,some (.arr 1 [[.d (iD ((lsS w l i).2:Nat))]])),(6,some (dblk 1 (numD (List.range w)))),(7,some (.arr 1 [[.sl 6 1 0 w w false]])),(8,some (.raw (.deferred (some [])))),(9,some (.lp [(21,.fn 241 [] [.ptr 7 1 0 0]),(20,.sl 6 1 0 w w false),(19,.d (.fn 243 [] [.rop [iD w] 0])),(18,.d (iD w)),(17,.d (wkD w l)),(16,.d (wkD w l)),(15,.d (wkD w l)),(14,.d (wkD w l)),(4,.ptr 5 1 0 0),(3,.ptr 4 1 0 0),(13,.ptr 2 3 0 0),(12,.d (.agg [iD w,rowsD l true])),(11,.d (wkD w l)),(10,.d (wkD w l)),(9,.d (wkD w l)),(2,.d (iD 0)),(0,.d (wkD w l))] Tryz.f97.ntmps #[22,23] (rgA Tryz.f97) (rgB Tryz.f97) .ready none 8))],10⟩) w (fun _=>True) trivial ?_ qah ?_ ?_
 ·rw[if_neg (show ¬ chS w l 0=true from fun h=>by cases h)]
  refine zac qac ?_ ?_ trivial
  ·repeat' first|exact trivial|refine⟨⟨by first|rfl|assumption|exact congrArg (fun n=>AV.d (iD n)) hw1,rfl⟩,?_⟩
  ·repeat' first|exact trivial|refine⟨⟨ltB rfl,_,rfl,by first|rfl|assumption|(show some (Blk.ren _ (dblk 4 _))=_;rw[zbf])|(show some (Blk.ren _ (dblk 1 _))=_;rw[zbf]),by first|exact zae rfl|exact zaa _ _ _|exact zab rfl|exact trivial|exact⟨rfl,Nat.le_of_ble_eq_true rfl⟩⟩,?_⟩
 ·intro i A_i h_i I_i N_i
  have e_i:iadd .i64 (i:Int) 1=((i+1:Nat):Int):=zah qbl
  have hk:=hrun i qad
  have hnw:w-1-i<w:=qad
  have hs:lsS w l (i+1)=if expR w (lsS w l i).1 (zP w (w-1-i) 0)=1 then lsS w l i else if expR w (lsS w l i).1 (zP w (w-1-i) 0) = -1 then((lsS w l i).1,(lsS w l i).2 ||| 2^(w-1-i)) else(redRows (prjL (zP w (w-1-i) 0) (lsS w l i).1) (2*w),(lsS w l i).2):=rfl
  have hol:(lsS w l i).2<4096:=Nat.lt_of_lt_of_le (hol0 i qad) (Nat.pow_le_pow_right qag hw.2)
  have hpn:2^(w-1-i)<=2048:=pow_i qad
  have hk1:(w:Int)-1-((i:Nat):Int)=((w-1-i:Nat):Int):=qad
  have hk2:isub .i64 ((w-1-i:Nat):Int) 1=(w:Int)-1-((i+1:Nat):Int):=qfi
  have hsh:ishl .i64 1 ((w-1-i:Nat):Int)=((2^(w-1-i):Nat):Int):=zcg qad
  have hfk:((numD (List.range w)).map fun el=>el.map AV.d)[0+((w-1-i:Nat):Int).toNat]?=some ([iD (w-1-i:Nat)].map AV.d):=by
   rw[Int.toNat_natCast,Nat.zero_add];simp[numD,List.getElem?_range hnw]
  obtain⟨n,hn⟩:∃ n,n=w-1-i:=⟨_,rfl⟩
  rw[<- hn]at hnw hs hk1 hk2 hsh hfk hpn
  cases hc:chS w l i with
  | false =>
   rw[if_neg qag]
   dsimp only
   rw[hk1]
   rcases meas hk hk (fun _=>Iff.rfl) hnw (Nat.zero_le 1) 136 with⟨e,c⟩|⟨e,c⟩|⟨e,hp,c⟩
   ·rw[if_pos e]at hs
    rw[if_neg (by rw[zx4,hc,<- hn,e];decide)]at N_i
    rw[hs]at N_i
    clear hs
    generalize lsS w l i=s at hk c N_i⊢
    conv=>whnf
    repeat (refine LookP.mk _ rfl ?_;conv=>whnf)
    intro t ht
    cases t
    ·exact qbh
    conv=>whnf
    repeat' first|((first|refine LookP.mk _ qcy ?_|refine And.intro qbm ?_|fail);conv=>whnf)|fail
    refine za9 pok ?_
    conv=>whnf
    repeat' first|((first|refine LookP.mk _ rfl ?_|rw[hB]|refine zjd c qag rfl rfl ?_|refine knownB (show((0:Int) != 0)=false from rfl) ?_);conv=>whnf)
    refine N_i _ ?_ ?_
    ·exact qbj
    ·exact qgv
   ·rw[if_neg qcs,if_pos e]at hs
    rw[if_neg (by rw[zx4,hc,<- hn,e];decide)]at N_i
    have e2:=exp_one hk hnw e
    rcases meas hk hk (fun _=>Iff.rfl) hnw (Nat.le_refl 1) 136 with⟨_,c2⟩|⟨e3,_⟩|⟨e3,_,_⟩
    ·have hor:ior .i64 (((lsS w l i).2:Nat):Int) ((2^n:Nat):Int)=(((lsS w l i).2 ||| 2^n:Nat):Int):=zhz qad qad
     rw[hs]at N_i
     clear hs
     generalize lsS w l i=s at hk c c2 hor N_i⊢
     conv=>whnf
     repeat (refine LookP.mk _ rfl ?_;conv=>whnf)
     intro t ht
     cases t
     ·exact qbh
     conv=>whnf
     repeat' first|((first|refine LookP.mk _ qcy ?_|refine And.intro qbm ?_|fail);conv=>whnf)|fail
     refine za9 pok ?_
     conv=>whnf
     repeat' first|((first|refine LookP.mk _ rfl ?_|refine ShlP.mk _ qaa ?_|refine And.intro qbi ?_|rw[hB]|refine zjd c qag rfl rfl ?_|refine knownB (show((6:Int) != 0)=true from rfl) ?_|refine zjd c2 qag rfl rfl ?_|rw[hsh]|rw[hor]|refine HpP.force ?_);conv=>whnf)
     refine N_i _ ?_ ?_
     ·exact qbj
     ·exact qgv
    ·exact qds
    ·exact qds
   ·rw[if_neg qcs,if_neg qcs]at hs
    rw[if_pos (by rw[zx4,hc,<- hn,e];rfl)]at N_i
    rw[hs]at N_i
    clear hs
    generalize lsS w l i=s at hk c N_i⊢
    conv=>whnf
    repeat (refine LookP.mk _ rfl ?_;conv=>whnf)
    intro t ht
    cases t
    ·exact qbh
    conv=>whnf
    repeat' first|((first|refine LookP.mk _ qcy ?_|refine And.intro qbm ?_|fail);conv=>whnf)|fail
    refine za9 pok ?_
    conv=>whnf
    repeat' first|((first|refine LookP.mk _ rfl ?_|rw[hB]|refine ze4 c qag rfl rfl ?_|refine knownB (show((0:Int) != 0)=false from rfl) ?_);conv=>whnf)
    refine N_i _ ?_ ?_
    ·exact qbj
    ·exact qg1
  | true =>
   rw[if_pos rfl]
   dsimp only
   rw[hk1]
   rcases meast hk hk (fun _=>Iff.rfl) hnw (Nat.zero_le 1) 136 with⟨e,c⟩|⟨e,c⟩|⟨e,hp,c⟩
   ·rw[if_pos e]at hs
    rw[if_pos (by rw[zx4,hc];rfl)]at N_i
    rw[hs]at N_i
    clear hs
    generalize lsS w l i=s at hk c N_i⊢
    conv=>whnf
    repeat (refine LookP.mk _ rfl ?_;conv=>whnf)
    intro t ht
    cases t
    ·exact qbh
    conv=>whnf
    repeat' first|((first|refine LookP.mk _ qcy ?_|refine And.intro qbm ?_|fail);conv=>whnf)|fail
    refine za9 pok ?_
    conv=>whnf
    repeat' first|((first|refine LookP.mk _ rfl ?_|rw[hB]|refine zhn c qag rfl rfl ?_|refine knownB (show((0:Int) != 0)=false from rfl) ?_);conv=>whnf)
    refine N_i _ ?_ ?_
    ·exact qbj
    ·exact qgv
   ·rw[if_neg qcs,if_pos e]at hs
    rw[if_pos (by rw[zx4,hc];rfl)]at N_i
    have e2:=exp_one hk hnw e
    rcases meast hk hk (fun _=>Iff.rfl) hnw (Nat.le_refl 1) 136 with⟨_,c2⟩|⟨e3,_⟩|⟨e3,_,_⟩
    ·have hor:ior .i64 (((lsS w l i).2:Nat):Int) ((2^n:Nat):Int)=(((lsS w l i).2 ||| 2^n:Nat):Int):=zhz qad qad
     rw[hs]at N_i
     clear hs
     generalize lsS w l i=s at hk c c2 hor N_i⊢
     conv=>whnf
     repeat (refine LookP.mk _ rfl ?_;conv=>whnf)
     intro t ht
     cases t
     ·exact qbh
     conv=>whnf
     repeat' first|((first|refine LookP.mk _ qcy ?_|refine And.intro qbm ?_|fail);conv=>whnf)|fail
     refine za9 pok ?_
     conv=>whnf
     repeat' first|((first|refine LookP.mk _ rfl ?_|refine ShlP.mk _ qaa ?_|refine And.intro qbi ?_|rw[hB]|refine zhn c qag rfl rfl ?_|refine knownB (show((6:Int) != 0)=true from rfl) ?_|refine zhn c2 qag rfl rfl ?_|rw[hsh]|rw[hor]|refine HpP.force ?_);conv=>whnf)
     refine N_i _ ?_ ?_
     ·exact qbj
     ·exact qgv
    ·exact qds
    ·exact qds
   ·rw[if_neg qcs,if_neg qcs]at hs
    rw[if_pos (by rw[zx4,hc];rfl)]at N_i
    rw[hs]at N_i
    clear hs
    generalize lsS w l i=s at hk c N_i⊢
    conv=>whnf
    repeat (refine LookP.mk _ rfl ?_;conv=>whnf)
    intro t ht
    cases t
    ·exact qbh
    conv=>whnf
    repeat' first|((first|refine LookP.mk _ qcy ?_|refine And.intro qbm ?_|fail);conv=>whnf)|fail
    refine za9 pok ?_
    conv=>whnf
    repeat' first|((first|refine LookP.mk _ rfl ?_|rw[hB]|refine zw5 c qag rfl rfl ?_|refine knownB (show((0:Int) != 0)=false from rfl) ?_);conv=>whnf)
    refine N_i _ ?_ ?_
    ·exact qbj
    ·exact qg1
 ·intro A_last I_last
  have hkw:(w:Int)-1-((w:Nat):Int) = -1:=qad
  cases hc:chS w l w with
  | false =>
   rw[if_neg qag]
   dsimp only
   rw[hkw]
   conv=>whnf
   repeat (refine LookP.mk _ rfl ?_;conv=>whnf)
   intro t ht
   cases t
   rotate_left
   ·exact qbh
   conv=>whnf
   repeat' first|(refine LookP.mk _ rfl ?_;conv=>whnf)
   exact fin rfl
  | true =>
   rw[if_pos rfl]
   dsimp only
   rw[hkw]
   conv=>whnf
   repeat (refine LookP.mk _ rfl ?_;conv=>whnf)
   intro t ht
   cases t
   rotate_left
   ·exact qbh
   conv=>whnf
   repeat' first|(refine LookP.mk _ rfl ?_;conv=>whnf)
   exact fin rfl
theorem least97{w:Nat}{l:List Ps}(h:SOk w l):PC Pr GG 97 [wkD w l] (iD ((lsS w l w).2:Nat)):=by
 refine pc_two (za3 Tryz.func97 chk97) (zbc (least97a h) ?_)
 rintro v H _ rfl
 exact .d _
end Go.Tz
namespace Go.Tz
open Go Go.AL Go.Proofs Go.Ma
theorem opened95d{w:Nat}{l:List Ps}(h:SOk w l)(t:Bool):PC Pr GG 95 [stD w l t] (wkD w (redRows l (2*w))):=by
 have hc:=zov (G:=GG) ⟨h.lo,h.hi⟩ l t (zjf h) h.vl
 rw[h.len]at hc
 have hlen:(redRows l (2*w)).length=w:=by rw[zls,h.len]
 refine zck hc.fn (zbc hc.call ?_)
 rintro v H _ ⟨rfl,rfl,_⟩
 refine .ptr 0 3 0 0 _ _ [iD w,rowsD (redRows l (2*w)) true,.any] rfl rfl rfl fun j v d h1 h2=>?_
 match j,h1,h2 with
 | 0,h1,h2=>simp at h1 h2;subst h1 h2;exact .d _
 | 1,h1,h2 =>
  simp at h1 h2;subst h1 h2
  have:=zt6 (H:=[(0,some (wkB w w)),(1,some (dblk 4 ((redRows l (2*w)).map Ps.l)))]) (nm:=1) (sz:=4) (l:=(redRows l (2*w)).map Ps.l) (len:=w) (room:=w) (t:=true) rfl qe4
  rwa [List.take_of_length_le qe4,decide_eq_true rfl]at this
 | 2,h1,h2=>simp at h1 h2;subst h1 h2;exact .any _
 | j+3,h1,_=>simp at h1
abbrev pgA(w:Nat)(l:List Ps):List (Nat×Ps):=flA w (flN w (redRows l (2*w)) w)
abbrev pgL(w:Nat)(l:List Ps):Nat:=(lsS w (redRows l (2*w)) w).2
structure PgOk (w:Nat) (l:List Ps):Prop where
 flips:PC Pr GG 96 [wkD w (redRows l (2*w))] (fpD (pgA w l) false)
 least:PC Pr GG 97 [wkD w (redRows l (2*w))] (iD (pgL w l:Nat))
 amp:Amp ((redRows l (2*w)).map nf) w (pgL w l) (pgA w l).length (valW w (pgA w l) (pgL w l))
 len:(pgA w l).length<=12
 lt:pgL w l<2^w
 ok:∀ a,a∈pgA w l->Vl w a.2/\a.1<12
theorem pg_ok{w:Nat}{l:List Ps}(h:SOk w l):PgOk w l:=by
 obtain⟨r1,r2⟩:=zbg h
 have hs:=zbv r1
 have hf:=fl_run h.hi r1.len r1.vl hs.good w (Nat.le_refl w)
 have hE:=ptq_end h.hi hf.pt
 obtain⟨s1,s2,s3⟩:=ls_end r1
 have hm:=hf.le
 have hhi:=h.hi
 refine⟨flips96 ⟨h.lo,h.hi⟩ r1.len r1.vl hs.good,least97 r1,amp_way h.hi hs.good hE s1 s2 fun k _ hk=>s3 k hk,?_,s2,fun a ha=>?_⟩
 ·simp only[List.length_map,List.length_range];omega
 ·obtain⟨j,hj,rfl⟩:=List.mem_map.1 ha
  have:=flok_o hf (List.mem_range.1 hj)
  exact⟨this.1,by omega⟩
theorem chk20:chkFn Tryz.f20=true:=qah
theorem zyk{w:Nat}{l:List Ps}(t:Bool)(h:SOk w l)(h6:w<=6):ACall Pr GG 20 [.d (stD w l t)] [] 0 fun v H _=>v = .tup [.sl 1 5 0 (2^w) (2^w) false,.d (iD 0)]/\H.get 1=some (dblk 5 (vcL (valW w (pgA w l) (pgL w l)) (pgA w l).length (2^w))):=by
 have hc:=zt3 w l t (zjf h)
 rw[ok_chk h]at hc
 have hgt:decide ((w:Int)>6)=false:=decide_eq_false qad
 have hw:1<=w/\w<=12:=⟨h.lo,h.hi⟩
 have hp:=pg_ok h
 have c1:=opened95d h t
 have c2:=hp.flips
 have c3:=hp.least
 have c4:=fun b (hb:b<2^w)=>zt8 (w:=w) hw (pgA w l) false (pgL w l) b hp.len hp.lt hb hp.ok
 have hsh:ishl .i64 1 (w:Int)=((2^w:Nat):Int):=zcg qad
 have hp12:2^w<=4096:=Nat.pow_le_pow_right qag hw.2
 obtain⟨N,hN⟩:∃ N,N=2^w:=⟨_,rfl⟩
 rw[<- hN]at hsh hp12⊢
 rw[<- hN]at c4
 clear hp
 generalize pgA w l=A at c2 c4⊢
 generalize pgL w l=lst at c3 c4⊢
 refine za4 pok Tryz.func20 chk20 ?_
 conv=>whnf
 repeat' first|((first|refine LookP.mk _ rfl ?_|refine And.intro qbi ?_|refine zak hc ?_|refine knownB (show((0:Int) != 0)=false from rfl) ?_|refine knownB hgt ?_|refine zak c1 ?_|refine zak c2 ?_|refine zak c3 ?_|rw[hsh]);conv=>whnf)
 refine zaq pok (fun k=>⟨[(1,.ptr 0 2 0 0),(6,.d (fpD A false)),(7,.d (iD lst)),(8,.sl 1 5 0 k k false),(26,.d (iD N)),(27,.d (iD k))],[(0,some (.arr 2 [[.d (iD w),.d (rowsD l t)]])),(1,some (dblk 5 (vcL (valW w A lst) A.length k)))],2⟩) (N) (fun _=>True) (trivial) ?_ qah ?_ ?_
 ·refine Sub.trans (zhp (t:=8) (S:=5) (Nat.zero_le _) rfl) ?_
  refine zac qac ?_ ?_ trivial
  ·exact qae
  ·exact qab
 ·intro k A_k h_k I_k N_k
  have e_k:iadd .i64 (k:Int) 1=((k+1:Nat):Int):=zah qbl
  have hvs:=vec_snoc (val:=valW w A lst) (m:=A.length) (k:=k)
  have hvl:(vcL (valW w A lst) A.length k).length=k:=qc3
  have hq:(2*(k+1)+192)*40<=281474976710656:=qad
  have hc4:=c4 k h_k
  generalize vcL (valW w A lst) A.length k=V at hvs hvl⊢
  generalize vcL (valW w A lst) A.length (k+1)=V' at hvs N_k
  generalize valW w A lst k=vk at hc4 hvs
  conv=>whnf
  repeat (refine LookP.mk _ rfl ?_;conv=>whnf)
  intro t ht
  cases t
  ·exact qbh
  conv=>whnf
  cases vk
  all_goals
   repeat' first|((first|refine LookP.mk _ rfl ?_|refine ShlP.mk _ qaa ?_|refine And.intro (by first|exact⟨Int.natCast_nonneg _,by omega⟩|exact Nat.le_refl _|exact⟨by rw[List.length_map];exact hvl,by decide,hq⟩|assumption|exact⟨by kernel_rfl,rfl⟩|decide|omega) ?_|refine zak hc4 ?_|rw[nbeq]|refine HpP.force ?_);conv=>whnf)
   refine N_k _ ?_ ?_
   ·exact qbj
   ·first|refine zav [(1,3)] ?_ ?_ ?_ trivial|refine zap [(1,3)] rfl rfl ?_ ?_ ?_ trivial
    ·exact qaj
    ·repeat' first|exact trivial|refine⟨⟨ltB rfl,_,rfl,by first|rfl|assumption|exact zag rfl (by first|rfl|assumption|exact zag rfl qfx)|exact zag rfl qfx,by first|exact zae rfl|exact zaa _ _ _|exact zab rfl⟩,?_⟩
    ·exact qaf
 ·exact qgs
end Go.Tz
