import Derived.Test.YtehjjpbpdfnnfaaGreatDoorM00
import Derived.Test.YtehjjpbpdfnnfaaGreatDoorM10
namespace Go.Tz
open Go Go.AL Go.Proofs
theorem za6{G:Nat->Option (List D)}{P:Program}{st:St}{o:Oper}{nm sz N:Nat}{t:Bool}{es:List (List D)}{H0:AHeap}{nms:Nat->Prop}(h:StepOp G P st o (.sl nm sz 0 N N t) ((nm,some (dblk sz es))::H0) nms)(hN:N=es.length) :
  StepOp G P st o (.d (.sl es t)) (dels [nm] ((nm,some (dblk sz es))::H0)) nms:=by
 intro C a hH hop hn
 obtain⟨C',r,h1,h2,h3,h4,h5⟩:=h C a hH hop hn
 obtain⟨C2,e1,e2,e3,g,tt,rr,q⟩:=zdv [nm] h3
 have hHL:HRel G C' [(nm,some (dblk sz es))]:=zdg h3 fun m bl h=>by
  by_cases em:m=nm
  ·subst em;rw[zaf]at h⊢;exact h
  ·exact qfo
 have hAs:AsD [(nm,some (dblk sz es))] (.sl nm sz 0 N N t) (.sl es t):=zda (zaf nm _ []) hN
 refine⟨C2,r,by rw[e1];exact h1,?_,g,h4.trans (tt.weaken fun m hm=>(h4.names m hm).1),fun m hm=>h5 m (e2 ▸ hm)⟩
 rcases h2 with⟨x,rfl,hx⟩|⟨_,h⟩
 ·refine .inl ⟨x,rfl,.d _ _ ?_⟩
  have:=zfw hHL (RO:=C2.RO) rr (fun m bl j h1 h2=>by
   by_cases em:m=nm
   ·subst em;exact q m _ j qc3 (zaf _ _ _) h2
   ·rw[zad _ _ em]at h1;cases h1) hAs x hx
  rw[e1];exact this
 ·exact qed
noncomputable def rv(f:FuncId)(ds:List D):D:=match rn f ds with
 | some d=>d
 | none=>.any
theorem zm2{f:FuncId}{ds:List D}(h:(rn f ds).isSome=true):PC Pr GG f ds (rv f ds):=by
 obtain⟨d,hd⟩:=Option.isSome_iff_exists.1 h
 have e:rv f ds=d:=by unfold rv;rw[hd]
 rw[e]
 exact zkj hd
noncomputable def ops275:Array Oper:=(Tryz.f275.body.bind (findReg 4)).getD #[]
abbrev toK(q:Int×D):D×D:=(iD q.1,q.2)
theorem keysK:∀ l:List (Int×D),keysD false (l.map toK)=some (l.map fun q=>[q.1])
 | []=>rfl
 | q::l=>by
  have ih:=keysK l
  simp only[List.map_cons,keysD,toK,keyD]at ih⊢
  rw[ih]
theorem zmc{k:Int}:∀(l:List (Int×D)) (i:Nat),(∀ q,q∈l->q.1≠k)->idxOf [k] (l.map fun q=>[q.1]) i=none
 | [],_,_=>rfl
 | q::l,i,h=>by
  have:([k]==[q.1])=false:=beq_eq_false_iff_ne.2 fun e=>h q qc3 (by simp at e;exact e.symm)
  simp only[List.map_cons,idxOf,this]
  exact zmc l (i+1) fun q hq=>h q qen
theorem zir{k:Int}{v:D}:∀(l:List (Int×D)) (i:Nat),(k,v)∈l->(∀ q,q∈l->q.1=k->q=(k,v))->∃ j,idxOf [k] (l.map fun q=>[q.1]) i=some (i+j)/\(l.map toK)[j]?=some (iD k,v)
 | [],_,h,_=>by cases h
 | q::l,i,h,hu=>by
  by_cases e:q.1=k
  ·have:=hu q qc3 e
   subst this
   exact⟨0,by simp[idxOf],rfl⟩
  ·have h':(k,v)∈l:=by
    rcases List.mem_cons.1 h with q1|q1
    ·subst q1;exact absurd rfl e
    ·exact q1
   obtain⟨j,h1,h2⟩:=zir l (i+1) h' fun q hq=>hu q qen
   have:([k]==[q.1])=false:=beq_eq_false_iff_ne.2 fun e2=>e (by simp at e2;exact e2.symm)
   refine⟨j+1,?_,by simpa using h2⟩
   simp only[List.map_cons,idxOf,this,h1]
   congr 1;omega
noncomputable def ins275:List (Nat×Int×D):=[(2,1,rv 278 [iD (2:Int),.fn 279 [] []]),(12,2,.sl [[.sl [nmD 0 0 0 0 0,unL 6 0] true],[.sl [unL 2 0,nmD 0 0 0 0 0] true]] true),(18,3,rv 280 [.sl [unL 0 0,unL 4 0] true]),(26,4,.sl [[.sl [unL 0 1,unL 0 1] true],[.sl [unL 0 1,unL 4 1] true]] true),(32,5,rv 280 [.sl [unL 0 0,unL 2 0] true]),(38,6,rv 280 [.sl [unL 0 0,unL 6 0] true]),(44,7,rv 280 [.sl [unL 0 0,unL 1 0] true]),(50,8,rv 280 [.sl [unL 0 0,unL 7 0] true]),(52,9,rv 278 [iD (4:Int),.fn 282 [] []]),(60,10,rv 280 [.sl [unL 0 0,unL 0 0,unL 0 0,unL 4 0] true]),(62,11,rv 278 [iD (4:Int),.fn 283 [] []]),(64,12,rv 278 [iD (8:Int),.fn 284 [] []])]
theorem znw:ins275.map (·.1)=[2,12,18,26,32,38,44,50,52,60,62,64]:=rfl
theorem ins_kk:ins275.map (·.2.1)=[1,2,3,4,5,6,7,8,9,10,11,12]:=rfl
noncomputable def tv275:List (Nat×Nat×AV):=[(1,16,.d (rv 278 [iD (2:Int),.fn 279 [] []])),(3,17,.d (.agg (nmD 0 0 0 0 0))),(4,18,.d (.fn 165 [] [])),(5,19,.d (.agg (unL 6 0))),(6,20,.d (.sl [nmD 0 0 0 0 0,unL 6 0] true)),(7,21,.d (.fn 165 [] [])),(8,22,.d (.agg (unL 2 0))),(9,23,.d (.agg (nmD 0 0 0 0 0))),(10,24,.d (.sl [unL 2 0,nmD 0 0 0 0 0] true)),(11,25,.d (.sl [[.sl [nmD 0 0 0 0 0,unL 6 0] true],[.sl [unL 2 0,nmD 0 0 0 0 0] true]] true)),(13,26,.d (.agg (unL 0 0))),(14,27,.d (.fn 165 [] [])),(15,28,.d (.agg (unL 4 0))),(16,29,.d (.sl [unL 0 0,unL 4 0] true)),(17,30,.d (rv 280 [.sl [unL 0 0,unL 4 0] true])),(19,31,.d (.agg (unL 0 1))),(20,32,.d (.agg (unL 0 1))),(21,33,.d (.sl [unL 0 1,unL 0 1] true)),(22,34,.d (.agg (unL 0 1))),(23,35,.d (.agg (unL 4 1))),(24,36,.d (.sl [unL 0 1,unL 4 1] true)),(25,37,.d (.sl [[.sl [unL 0 1,unL 0 1] true],[.sl [unL 0 1,unL 4 1] true]] true)),(27,38,.d (.agg (unL 0 0))),(28,39,.d (.fn 165 [] [])),(29,40,.d (.agg (unL 2 0))),(30,41,.d (.sl [unL 0 0,unL 2 0] true)),(31,42,.d (rv 280 [.sl [unL 0 0,unL 2 0] true])),(33,43,.d (.agg (unL 0 0))),(34,44,.d (.fn 165 [] [])),(35,45,.d (.agg (unL 6 0))),(36,46,.d (.sl [unL 0 0,unL 6 0] true)),(37,47,.d (rv 280 [.sl [unL 0 0,unL 6 0] true])),(39,48,.d (.agg (unL 0 0))),(40,49,.d (.fn 165 [] [])),(41,50,.d (.agg (unL 1 0))),(42,51,.d (.sl [unL 0 0,unL 1 0] true)),(43,52,.d (rv 280 [.sl [unL 0 0,unL 1 0] true])),(45,53,.d (.agg (unL 0 0))),(46,54,.d (.fn 165 [] [])),(47,55,.d (.agg (unL 7 0))),(48,56,.d (.sl [unL 0 0,unL 7 0] true)),(49,57,.d (rv 280 [.sl [unL 0 0,unL 7 0] true])),(51,58,.d (rv 278 [iD (4:Int),.fn 282 [] []])),(53,59,.d (.agg (unL 0 0))),(54,60,.d (.agg (unL 0 0))),(55,61,.d (.agg (unL 0 0))),(56,62,.d (.fn 165 [] [])),(57,63,.d (.agg (unL 4 0))),(58,64,.d (.sl [unL 0 0,unL 0 0,unL 0 0,unL 4 0] true)),(59,65,.d (rv 280 [.sl [unL 0 0,unL 0 0,unL 0 0,unL 4 0] true])),(61,66,.d (rv 278 [iD (4:Int),.fn 283 [] []])),(63,67,.d (rv 278 [iD (8:Int),.fn 284 [] []]))]
structure ZM (hs:List (Nat×Blk)) (base:Nat) (L:Nat->Bool) (s:St):Prop where
 nx:base<=s.nx
 ho:∀ p,p∈hs->s.heap.get p.1=some p.2
 no:L 0=false->sel ins275 L=[]
 mp:L 0=true->∃(X:Nat) (M:List (Int×D)),base<=X/\X<s.nx/\lk s.env 15 = .map X/\s.heap.get X=some (.map (M.map toK))/\M.Perm (sel ins275 L)
 m65:L 65=true->lk s.env 68=lk s.env 15
 m66:L 66=true->lk s.env 0=lk s.env 15
 o:L 65=true\/L 66=true->L 0=true
theorem zvs{i:Nat}(h:i ∉ ins275.map (·.1)):∀ p,p∈ins275->p.1≠i:=fun p hp e=>h (List.mem_map.2 ⟨p,hp,e⟩)
theorem zm_put{hs:List (Nat×Blk)}{base:Nat}{L:Nat->Bool}{s:St}{i d n:Nat}{v:AV}{H:AHeap}(h:ZM hs base L s)(hi:i ∉ 0::65::66::ins275.map (·.1))(hd:d≠15/\d≠68/\d≠0)(hn:s.nx<=n)(hH:∀ m,m<s.nx->H.get m=s.heap.get m)(hhs:∀ p,p∈hs->p.1<base):ZM hs base (fun j=>if j=i then true else L j) (({ env:=s.env,heap:=H,nx:=n }:St).put (some d) v):=by
 simp only[List.mem_cons,not_or]at hi
 obtain⟨i0,i65,i66,ii⟩:=hi
 have hnx:=h.nx
 have es:sel ins275 (fun j=>if j=i then true else L j)=sel ins275 L:=zep (zvs ii)
 have lkd:∀ t,t≠d->lk (({ env:=s.env,heap:=H,nx:=n }:St).put (some d) v).env t=lk s.env t:=fun t ht=>zan _ _ ht
 refine⟨by show base<=n;omega,fun p hp=>(hH p.1 (by have:=hhs p hp;omega)).trans (h.ho p hp),fun a=>?_,fun a=>?_,fun a=>?_,fun a=>?_,fun a=>by simpa only[if_neg (Ne.symm i0)] using h.o (by simpa only[if_neg (Ne.symm i65),if_neg (Ne.symm i66)] using a)⟩
 ·rw[es];exact h.no qfr
 ·obtain⟨X,M,x1,x2,x3,x4,x5⟩:=h.mp qfr
  exact⟨X,M,x1,by show X<n;omega,(lkd 15 (Ne.symm hd.1)).trans x3,(hH X x2).trans x4,by rw[es];exact x5⟩
 ·rw[lkd 68 (Ne.symm hd.2.1),lkd 15 (Ne.symm hd.1)];exact h.m65 qff
 ·rw[lkd 0 (Ne.symm hd.2.2),lkd 15 (Ne.symm hd.1)];exact h.m66 qfg
theorem ins_two:(ins275.map (·.1)).Nodup:=qex
theorem zo6:(ins275.map (·.2.1)).Nodup:=by rw[ins_kk];decide
theorem zgz{α β:Type}{f:α->β}:∀{l:List α},(l.map f).Nodup->∀{a b:α},a∈l->b∈l->f a=f b->a=b
 | [],_,_,_,h,_,_=>by cases h
 | x::l,hn,a,b,ha,hb,e=>by
  rw[List.map_cons,List.nodup_cons]at hn
  rcases List.mem_cons.1 ha with ha'|ha'<;>rcases List.mem_cons.1 hb with hb'|hb'
  ·rw[ha',hb']
  ·exact absurd (List.mem_map.2 ⟨b,hb',by rw[<- e,ha']⟩) hn.1
  ·exact absurd (List.mem_map.2 ⟨a,ha',by rw[e,hb']⟩) hn.1
  ·exact zgz hn.2 ha' hb' e
theorem tb33:TBuild Pr 33 [iD 0,iD 0,iD 0,iD 0,iD 0] [(0,1),(1,1),(2,1),(3,1),(4,1)]:=zib pok.tab (ty:=⟨true,5,40,.agg [iD 0,iD 0,iD 0,iD 0,iD 0],.st [(0,1,false),(1,1,false),(2,1,false),(3,1,false),(4,1,false)]⟩) rfl rfl rfl
theorem m281:PC Pr GG 281 [] (.agg (unL 0 0)):=zf6 qah
theorem zcr{S:Nat}{l:List (List D)}(h:(l.all fun el=>Nat.beq el.length S)=true):∀ el,el∈(l.map fun el=>el.map AV.d)->el.length=S:=fun el hm=>by
 obtain⟨x,hx,rfl⟩:=List.mem_map.1 hm
 rw[List.length_map]
 exact Nat.eq_of_beq_eq_true (List.all_eq_true.1 h x hx)
theorem st_putn{tv:List (Nat×Nat×AV)}{ks:List (Nat×AV)}{Z:(Nat->Bool)->St->Prop}{L:Nat->Bool}{s:St}{i d n:Nat}{v:AV}{H:AHeap}(h:ST tv ks Z L s)(hks:∀ p,p∈ks->p.1≠d)(htv:AllP (fun p:Nat×Nat×AV=>(p.1=i/\p.2=(d,v))\/(p.1≠i/\p.2.1≠d)) tv)
  (hz:Z (fun j=>if j=i then true else L j) (({ env:=s.env,heap:=H,nx:=n }:St).put (some d) v)):ST tv ks Z (fun j=>if j=i then true else L j) (({ env:=s.env,heap:=H,nx:=n }:St).put (some d) v):=by
 refine⟨fun p hp=>(zan _ _ (hks p hp)).trans (h.kp p hp),fun p hp hl=>?_,hz⟩
 rcases AllP.mem htv p hp with⟨_,e⟩|⟨e1,e2⟩
 ·rw[e];exact zar _ _ _
 ·simp only[if_neg e1]at hl
  exact(zan _ _ e2).trans (h.tv p hp hl)
theorem keyOk3:KeyOk Pr 3 false 1:=((pok.tab.get (t:=309) rfl).2).2
theorem und309:Pr.underlying 309=some (.map 3 307):=((pok.tab.get (t:=309) rfl).2).1
theorem st_mono{tv:List (Nat×Nat×AV)}{ks:List (Nat×AV)}{Z:(Nat->Bool)->St->Prop}{L:Nat->Bool}{s:St}{i n:Nat}{H:AHeap}(h:ST tv ks Z L s)(htv:∀ p,p∈tv->p.1≠i)(hz:Z (fun j=>if j=i then true else L j) { env:=s.env,heap:=H,nx:=n }):ST tv ks Z (fun j=>if j=i then true else L j) { env:=s.env,heap:=H,nx:=n } :=
 ⟨h.kp,fun p hp hl=>h.tv p hp (by simpa only[if_neg (htv p hp)] using hl),hz⟩
theorem tv_ks:tv275.map (·.1)=[1,3,4,5,6,7,8,9,10,11,13,14,15,16,17,19,20,21,22,23,24,25,27,28,29,30,31,33,34,35,36,37,39,40,41,42,43,45,46,47,48,49,51,53,54,55,56,57,58,59,61,63]:=rfl
theorem tv_ds:tv275.map (·.2.1)=[16,17,18,19,20,21,22,23,24,25,26,27,28,29,30,31,32,33,34,35,36,37,38,39,40,41,42,43,44,45,46,47,48,49,50,51,52,53,54,55,56,57,58,59,60,61,62,63,64,65,66,67]:=rfl
theorem tv_at{q i d:Nat}{v:AV}(h:tv275[q]?=some (i,d,v)):(5<=d/\d≠15/\d≠68/\d≠0)/\i ∉ [0,65,66,2,12,18,26,32,38,44,50,52,60,62,64]/\AllP (fun p:Nat×Nat×AV=>(p.1=i/\p.2=(d,v))\/(p.1≠i/\p.2.1≠d)) tv275:=by
 have hm:=List.mem_of_getElem? h
 have h1:i∈tv275.map (·.1):=List.mem_map.2 ⟨_,hm,rfl⟩
 have h2:d∈tv275.map (·.2.1):=List.mem_map.2 ⟨_,hm,rfl⟩
 rw[tv_ks]at h1
 rw[tv_ds]at h2
 have n1:(tv275.map (·.1)).Nodup:=by rw[tv_ks];decide
 have n2:(tv275.map (·.2.1)).Nodup:=by rw[tv_ds];decide
 refine⟨(by decide:∀ d∈[16,17,18,19,20,21,22,23,24,25,26,27,28,29,30,31,32,33,34,35,36,37,38,39,40,41,42,43,44,45,46,47,48,49,50,51,52,53,54,55,56,57,58,59,60,61,62,63,64,65,66,67],5<=d/\d≠15/\d≠68/\d≠0) d h2,(by decide:∀ i∈[1,3,4,5,6,7,8,9,10,11,13,14,15,16,17,19,20,21,22,23,24,25,27,28,29,30,31,33,34,35,36,37,39,40,41,42,43,45,46,47,48,49,51,53,54,55,56,57,58,59,61,63],i ∉ [0,65,66,2,12,18,26,32,38,44,50,52,60,62,64]) i h1,zp0 fun p hp=>?_⟩
 by_cases e:p.1=i
 ·exact .inl ⟨e,by rw[zgz n1 hp hm e]⟩
 ·exact .inr ⟨e,fun e2=>e (by rw[zgz n2 hp hm e2])⟩
theorem zf0{r:Option Nat}{hs:List (Nat×Blk)}{base:Nat}{L:Nat->Bool}{s:St}{o:Oper}{i t:Nat}{k:Int}{v:D}(hS:ST tv275 [(2,.ptr 0 5 0 0),(4,.ptr 1 5 0 0),(1,.d (.fn 165 [] []))] (ZM hs base) L s)(hL:L i=false)(h0:L 0=true)(ho:o.op = .insert 309 (.tmp 15) (.const (.int .i64 k)) (.tmp t))(hd:o.dst=none)(e2:lk s.env t = .d v)(hm:(i,k,v)∈ins275)
  (hi:i ∉ 0::65::66::tv275.map (·.1)) (hhs:∀ p,p∈hs->p.1<base):OpWP r Pr GK Tryz.f275.ntmps 0 o s [] fun s'=>ST tv275 [(2,.ptr 0 5 0 0),(4,.ptr 1 5 0 0),(1,.d (.fn 165 [] []))] (ZM hs base) (fun j=>if j=i then true else L j) s':=by
 simp only[List.mem_cons,not_or]at hi
 obtain⟨i0,i65,i66,ii⟩:=hi
 obtain⟨X,M,x1,x2,x3,x4,x5⟩:=hS.z.mp h0
 have hnone:idxOf [k] (M.map fun q=>[q.1]) 0=none:=zmc M 0 fun q hq e=>by
  have hq':q∈sel ins275 L:=x5.subset hq
  unfold sel at hq'
  obtain⟨p,hp,rfl⟩:=List.mem_map.1 hq'
  obtain⟨p1,p2⟩:=List.mem_filter.1 hp
  have:p=(i,k,v):=zgz zo6 p1 hm e
  rw[this,hL]at p2;cases p2
 have hst:=zdk (G:=GK) (st:=s) (S:=1) (nm:=X) (d:=iD k) (y:=v) (es:=M.map toK) (kss:=M.map fun q=>[q.1]) (.inr ho) und309 keyOk3 x3 x4 rfl rfl e2 rfl (keysK M) (fun ks h=>by obtain⟨q,_,rfl⟩:=List.mem_map.1 h;rfl) rfl
 rw[hnone]at hst
 refine za1 (k:=0) (fun c hc=>by rw[ho]at hc;cases hc) (hst.names fun _ h=>h.elim) (by rw[hd];rfl) ?_
 rw[hd]
 refine st_mono hS (fun p hp e=>ii (List.mem_map.2 ⟨p,hp,e⟩)) ⟨hS.z.nx,fun p hp=>(zad _ _ (by have:=hhs p hp;omega)).trans (hS.z.ho p hp),fun a=>?_,fun _=>⟨X,M++[(k,v)],x1,x2,x3,?_,?_⟩,fun a=>hS.z.m65 qff,fun a=>hS.z.m66 qfg,fun _=>by simpa only[if_neg (Ne.symm i0)] using h0⟩
 ·simp only[if_neg (Ne.symm i0)]at a
  rw[h0]at a;cases a
 ·show AHeap.get ((X,_)::s.heap) X=_
  rw[zaf,List.map_append];rfl
 ·exact(x5.append_right [(k,v)]).trans (zsu hL ins275 ins_two hm).symm
theorem fin65{L:Nat->Bool}:(∀ i,i<67->L i=true)->sel ins275 L=ins275.map (·.2):=fun h=>by
 unfold sel
 rw[List.filter_eq_self.2 fun p hp=>?_]
 have:p.1∈ins275.map (·.1):=List.mem_map.2 ⟨p,hp,rfl⟩
 rw[znw]at this
 refine h p.1 ?_
 have:∀ x∈[2,12,18,26,32,38,44,50,52,60,62,64],x<67:=qag
 exact this _ ‹_›
abbrev ztm:List (Nat×Blk):=[(0,Blk.arr 5 [(unL 0 1).map AV.d]),(1,Blk.arr 5 [(unL 4 1).map AV.d])]
theorem zit:∀ p,p∈ztm->p.1<2:=fun p hp=>by
 rcases List.mem_cons.1 hp with rfl|hp
 ·exact qag
 ·rcases List.mem_cons.1 hp with rfl|hp
  ·exact qag
  ·cases hp
theorem not_in{i:Nat}(h:i ∉ [0,65,66,2,12,18,26,32,38,44,50,52,60,62,64]):i ∉ 0::65::66::ins275.map (·.1):=by rw[znw];exact h
theorem zfz{i:Nat}(h:i ∉ [0,65,66,1,3,4,5,6,7,8,9,10,11,13,14,15,16,17,19,20,21,22,23,24,25,27,28,29,30,31,33,34,35,36,37,39,40,41,42,43,45,46,47,48,49,51,53,54,55,56,57,58,59,61,63]):i ∉ 0::65::66::tv275.map (·.1):=by rw[tv_ks];exact h
set_option maxHeartbeats 4000000 in
theorem reg275{st:St}(S0:ST tv275 [(2,.ptr 0 5 0 0),(4,.ptr 1 5 0 0),(1,.d (.fn 165 [] []))] (ZM ztm 2) (fun _=>false) st){k:Exit->St->Prop}
  (hk:∀ L s',ST tv275 [(2,.ptr 0 5 0 0),(4,.ptr 1 5 0 0),(1,.d (.fn 165 [] []))] (ZM ztm 2) L s'->(∀ i,i<67->L i=true)->∃ st'',Sub GK 0 [] s' st''/\k .normal st''):RegVC Pr GK Tryz.f275.ntmps 0 [] 4 ops275 st k:=by
 refine⟨fun r=>zmw pok.mixed (ziz qah) (ST tv275 [(2,.ptr 0 5 0 0),(4,.ptr 1 5 0 0),(1,.d (.fn 165 [] []))] (ZM ztm 2)) S0 ?_ ?_⟩
 ·intro L s i op hS hL ho hall
  have hi:i<67:=(Array.getElem?_eq_some_iff.1 ho).1
  have T33:=pok.tab.get (t:=33) rfl
  have T31:=pok.tab.get (t:=31) rfl
  have T307:=pok.tab.get (t:=307) rfl
  have htv:∀(q j d:Nat) (v:AV),tv275[q]?=some (j,d,v)->L j=true->lk s.env d=v:=fun q j d v hm hl=>hS.tv (j,d,v) (List.mem_of_getElem? hm) hl
  have kp2:lk s.env 2 = .ptr 0 5 0 0:=hS.kp (2,.ptr 0 5 0 0) qc3
  have kp4:lk s.env 4 = .ptr 1 5 0 0:=hS.kp (4,.ptr 1 5 0 0) qc3
  have kp1:lk s.env 1 = .d (.fn 165 [] []):=hS.kp (1,.d (.fn 165 [] [])) qc3
  have hks:∀ p:Nat×AV,p∈[(2,AV.ptr 0 5 0 0),(4,.ptr 1 5 0 0),(1,.d (.fn 165 [] []))]->p.1<5:=fun p hp=>by
   rcases List.mem_cons.1 hp with rfl|hp
   ·exact qag
   ·rcases List.mem_cons.1 hp with rfl|hp
    ·exact qag
    ·rcases List.mem_cons.1 hp with rfl|hp
     ·exact qag
     ·cases hp
  have put:∀{q i d n:Nat} {v:AV} {H:AHeap},tv275[q]?=some (i,d,v)->s.nx<=n->(∀ m,m<s.nx->H.get m=s.heap.get m)->ST tv275 [(2,.ptr 0 5 0 0),(4,.ptr 1 5 0 0),(1,.d (.fn 165 [] []))] (ZM ztm 2) (fun j=>if j=i then true else L j) (({ env:=s.env,heap:=H,nx:=n }:St).put (some d) v):=fun h hn hH=>by
   obtain⟨h5,hi,ht⟩:=tv_at h
   exact zj3 hS hks h5.1 ht (zm_put hS.z (not_in hi) h5.2 hn hH zit)
  have call:∀{q i d:Nat} {f:FuncId} {ds:List D} {v:D},tv275[q]?=some (i,d,.d v)->PC Pr GK f ds v->IsFn Pr f/\ACall Pr GK f (ds.map .d) s.heap s.nx fun v H' nx'=>ST tv275 [(2,.ptr 0 5 0 0),(4,.ptr 1 5 0 0),(1,.d (.fn 165 [] []))] (ZM ztm 2) (fun j=>if j=i then true else L j) (({ env:=s.env,heap:=H',nx:=nx' }:St).put (some d) v):=fun h hc=>by
   have h:=zak (H:=s.heap) (nx:=s.nx) hc (k:=fun v H' nx'=>ST tv275 [(2,.ptr 0 5 0 0),(4,.ptr 1 5 0 0),(1,.d (.fn 165 [] []))] (ZM ztm 2) (fun j=>if j=_ then true else L j) (({ env:=s.env,heap:=H',nx:=nx' }:St).put (some _) v)) (put h (Nat.le_refl _) fun _ _=>rfl)
   cases h with
   | mk h1 h2=>exact⟨h1,h2⟩
  have hcs:i=0\/i=1\/i=2\/i=3\/i=4\/i=5\/i=6\/i=7\/i=8\/i=9\/i=10\/i=11\/i=12\/i=13\/i=14\/i=15\/i=16\/i=17\/i=18\/i=19\/i=20\/i=21\/i=22\/i=23\/i=24\/i=25\/i=26\/i=27\/i=28\/i=29\/i=30\/i=31\/i=32\/i=33\/i=34\/i=35\/i=36\/i=37\/i=38\/i=39\/i=40\/i=41\/i=42\/i=43\/i=44\/i=45\/i=46\/i=47\/i=48\/i=49\/i=50\/i=51\/i=52\/i=53\/i=54\/i=55\/i=56\/i=57\/i=58\/i=59\/i=60\/i=61\/i=62\/i=63\/i=64\/i=65\/i=66:=qad
  rcases hcs with rfl|rfl|rfl|rfl|rfl|rfl|rfl|rfl|rfl|rfl|rfl|rfl|rfl|rfl|rfl|rfl|rfl|rfl|rfl|rfl|rfl|rfl|rfl|rfl|rfl|rfl|rfl|rfl|rfl|rfl|rfl|rfl|rfl|rfl|rfl|rfl|rfl|rfl|rfl|rfl|rfl|rfl|rfl|rfl|rfl|rfl|rfl|rfl|rfl|rfl|rfl|rfl|rfl|rfl|rfl|rfl|rfl|rfl|rfl|rfl|rfl|rfl|rfl|rfl|rfl|rfl|rfl
  all_goals
   have ho:=Option.some.inj (show some _=some op from ho)
   subst ho
   refine⟨rfl,?_⟩
  ·refine za1 (k:=1) (fun c hc=>by cases hc) ((zf2 (G:=GK) (nm:=s.nx) rfl).names fun m hm=>by subst hm;omega) rfl ?_
   have hnx:=hS.z.nx
   refine zj3 (i:=0) (d:=15) hS hks qag qaq ⟨by show 2<=s.nx+1;omega,fun p hp=>(zad _ _ (by have:=zit p hp;omega)).trans (hS.z.ho p hp),fun a=>(by simp at a),fun _=>⟨s.nx,[],hnx,by show s.nx<s.nx+1;omega,zar _ _ _,zaf _ _ _,?_⟩,fun a=>?_,fun a=>?_,fun _=>rfl⟩
   ·rw[zep (zvs qex),hS.z.no hL]
   ·have:=hS.z.o (.inl qfq);rw[hL]at this;cases this
   ·have:=hS.z.o (.inr qfq);rw[hL]at this;cases this
  ·obtain⟨hf,hc⟩:=call (q:=0) rfl (up (zm2 (f:=278) (ds:=[iD (2:Int),.fn 279 [] []]) qah))
   exact zaw (f:=278) (fi:=[]) (ca:=[]) rfl rfl hf rfl rfl hc
  ·exact zf0 hS hL (hall ⟨0,.data⟩ (Array.mem_of_getElem? (i:=0) rfl) rfl) rfl rfl (htv 0 1 16 _ rfl (hall ⟨1,.data⟩ (Array.mem_of_getElem? (i:=1) rfl) rfl)) (List.mem_of_getElem? (i:=0) rfl) (zfz qag) zit
  ·exact zal (fun c h=>by cases h) (ze8 (l:=[.d (iD 0),.d (iD 0),.d (iD 0),.d (iD 0),.d (iD 0)]) rfl tb33 rfl) rfl (put (q:=1) rfl (Nat.le_refl _) fun _ _=>rfl)
  ·exact zal (fun c h=>by cases h) (zbl rfl kp1) rfl (put (q:=2) rfl (Nat.le_refl _) fun _ _=>rfl)
  ·have q:=(htv 2 4 18 _ rfl (hall ⟨4,.data⟩ (Array.mem_of_getElem? (i:=0) rfl) rfl))
   obtain⟨hf,hc⟩:=call (q:=3) rfl (up (zc4 (k:=6) qag))
   exact zaw (f:=165) (fi:=[]) (ca:=[]) rfl (by show fnOf (lk s.env 18)=_;rw[q];rfl) hf rfl rfl hc
  ·have hnx:=hS.z.nx
   have q17:=(htv 1 3 17 _ rfl (hall ⟨3,.data⟩ (Array.mem_of_getElem? (i:=0) rfl) rfl))
   have q19:=(htv 3 5 19 _ rfl (hall ⟨5,.data⟩ (Array.mem_of_getElem? (i:=1) rfl) rfl))
   refine za1 (k:=1) (fun c hc=>by cases hc) ((za6 (nm:=s.nx) (es:=[nmD 0 0 0 0 0,unL 6 0]) (zat (G:=GK) (len:=2) (ps:=#[(0,.tmp 17),(1,.tmp 19)]) (nm:=s.nx) (zs:=[.d (iD 0),.d (iD 0),.d (iD 0),.d (iD 0),.d (iD 0)]) (els:=([nmD 0 0 0 0 0,unL 6 0]:List (List D)).map fun el=>el.map AV.d) rfl ⟨T31.2,T33.1⟩ rfl rfl (by show fillA _ _ [(0,lk s.env 17),(1,lk s.env 19)]=_;rw[q17,q19];rfl) (zcr rfl) rfl (Nat.le_of_ble_eq_true rfl)) rfl).names fun m hm=>by subst hm;omega) rfl ?_
   exact put (q:=4) rfl (Nat.le_succ _) fun m hm=>by show AHeap.get (AHeap.del _ _) m=_;rw[za8,if_neg qad,zad _ _ qad]
  ·exact zal (fun c h=>by cases h) (zbl rfl kp1) rfl (put (q:=5) rfl (Nat.le_refl _) fun _ _=>rfl)
  ·have q:=(htv 5 7 21 _ rfl (hall ⟨7,.data⟩ (Array.mem_of_getElem? (i:=0) rfl) rfl))
   obtain⟨hf,hc⟩:=call (q:=6) rfl (up (zc4 (k:=2) qag))
   exact zaw (f:=165) (fi:=[]) (ca:=[]) rfl (by show fnOf (lk s.env 21)=_;rw[q];rfl) hf rfl rfl hc
  ·exact zal (fun c h=>by cases h) (ze8 (l:=[.d (iD 0),.d (iD 0),.d (iD 0),.d (iD 0),.d (iD 0)]) rfl tb33 rfl) rfl (put (q:=7) rfl (Nat.le_refl _) fun _ _=>rfl)
  ·have hnx:=hS.z.nx
   have q22:=(htv 6 8 22 _ rfl (hall ⟨8,.data⟩ (Array.mem_of_getElem? (i:=0) rfl) rfl))
   have q23:=(htv 7 9 23 _ rfl (hall ⟨9,.data⟩ (Array.mem_of_getElem? (i:=1) rfl) rfl))
   refine za1 (k:=1) (fun c hc=>by cases hc) ((za6 (nm:=s.nx) (es:=[unL 2 0,nmD 0 0 0 0 0]) (zat (G:=GK) (len:=2) (ps:=#[(0,.tmp 22),(1,.tmp 23)]) (nm:=s.nx) (zs:=[.d (iD 0),.d (iD 0),.d (iD 0),.d (iD 0),.d (iD 0)]) (els:=([unL 2 0,nmD 0 0 0 0 0]:List (List D)).map fun el=>el.map AV.d) rfl ⟨T31.2,T33.1⟩ rfl rfl (by show fillA _ _ [(0,lk s.env 22),(1,lk s.env 23)]=_;rw[q22,q23];rfl) (zcr rfl) rfl (Nat.le_of_ble_eq_true rfl)) rfl).names fun m hm=>by subst hm;omega) rfl ?_
   exact put (q:=8) rfl (Nat.le_succ _) fun m hm=>by show AHeap.get (AHeap.del _ _) m=_;rw[za8,if_neg qad,zad _ _ qad]
  ·have hnx:=hS.z.nx
   have q20:=(htv 4 6 20 _ rfl (hall ⟨6,.data⟩ (Array.mem_of_getElem? (i:=0) rfl) rfl))
   have q24:=(htv 8 10 24 _ rfl (hall ⟨10,.data⟩ (Array.mem_of_getElem? (i:=1) rfl) rfl))
   refine za1 (k:=1) (fun c hc=>by cases hc) ((za6 (nm:=s.nx) (es:=[[.sl [nmD 0 0 0 0 0,unL 6 0] true],[.sl [unL 2 0,nmD 0 0 0 0 0] true]]) (zat (G:=GK) (len:=2) (ps:=#[(0,.tmp 20),(1,.tmp 24)]) (nm:=s.nx) (zs:=[.d (.sl [] true)]) (els:=([[.sl [nmD 0 0 0 0 0,unL 6 0] true],[.sl [unL 2 0,nmD 0 0 0 0 0] true]]:List (List D)).map fun el=>el.map AV.d) rfl ⟨T307.2,T31.1⟩ rfl rfl (by show fillA _ _ [(0,lk s.env 20),(1,lk s.env 24)]=_;rw[q20,q24];rfl) (zcr rfl) rfl (Nat.le_of_ble_eq_true rfl)) rfl).names fun m hm=>by subst hm;omega) rfl ?_
   exact put (q:=9) rfl (Nat.le_succ _) fun m hm=>by show AHeap.get (AHeap.del _ _) m=_;rw[za8,if_neg qad,zad _ _ qad]
  ·exact zf0 hS hL (hall ⟨0,.data⟩ (Array.mem_of_getElem? (i:=0) rfl) rfl) rfl rfl (htv 9 11 25 _ rfl (hall ⟨11,.data⟩ (Array.mem_of_getElem? (i:=1) rfl) rfl)) (List.mem_of_getElem? (i:=1) rfl) (zfz qag) zit
  ·obtain⟨hf,hc⟩:=call (q:=10) rfl (up m281)
   exact zaw (f:=281) (fi:=[]) (ca:=[]) rfl rfl hf rfl rfl hc
  ·exact zal (fun c h=>by cases h) (zbl rfl kp1) rfl (put (q:=11) rfl (Nat.le_refl _) fun _ _=>rfl)
  ·have q:=(htv 11 14 27 _ rfl (hall ⟨14,.data⟩ (Array.mem_of_getElem? (i:=0) rfl) rfl))
   obtain⟨hf,hc⟩:=call (q:=12) rfl (up (zc4 (k:=4) qag))
   exact zaw (f:=165) (fi:=[]) (ca:=[]) rfl (by show fnOf (lk s.env 27)=_;rw[q];rfl) hf rfl rfl hc
  ·have hnx:=hS.z.nx
   have q26:=(htv 10 13 26 _ rfl (hall ⟨13,.data⟩ (Array.mem_of_getElem? (i:=0) rfl) rfl))
   have q28:=(htv 12 15 28 _ rfl (hall ⟨15,.data⟩ (Array.mem_of_getElem? (i:=1) rfl) rfl))
   refine za1 (k:=1) (fun c hc=>by cases hc) ((za6 (nm:=s.nx) (es:=[unL 0 0,unL 4 0]) (zat (G:=GK) (len:=2) (ps:=#[(0,.tmp 26),(1,.tmp 28)]) (nm:=s.nx) (zs:=[.d (iD 0),.d (iD 0),.d (iD 0),.d (iD 0),.d (iD 0)]) (els:=([unL 0 0,unL 4 0]:List (List D)).map fun el=>el.map AV.d) rfl ⟨T31.2,T33.1⟩ rfl rfl (by show fillA _ _ [(0,lk s.env 26),(1,lk s.env 28)]=_;rw[q26,q28];rfl) (zcr rfl) rfl (Nat.le_of_ble_eq_true rfl)) rfl).names fun m hm=>by subst hm;omega) rfl ?_
   exact put (q:=13) rfl (Nat.le_succ _) fun m hm=>by show AHeap.get (AHeap.del _ _) m=_;rw[za8,if_neg qad,zad _ _ qad]
  ·have q:=(htv 13 16 29 _ rfl (hall ⟨16,.data⟩ (Array.mem_of_getElem? (i:=0) rfl) rfl))
   obtain⟨hf,hc⟩:=call (q:=14) rfl (up (zm2 (f:=280) (ds:=[.sl [unL 0 0,unL 4 0] true]) qah))
   exact zaw (f:=280) (fi:=[]) (ca:=[]) rfl rfl hf (by show []++[lk s.env 29]++[]=_;rw[q];rfl) rfl hc
  ·exact zf0 hS hL (hall ⟨0,.data⟩ (Array.mem_of_getElem? (i:=0) rfl) rfl) rfl rfl (htv 14 17 30 _ rfl (hall ⟨17,.data⟩ (Array.mem_of_getElem? (i:=1) rfl) rfl)) (List.mem_of_getElem? (i:=2) rfl) (zfz qag) zit
  ·exact zal (fun c h=>by cases h) (zcj rfl T33.tok (fun h=>by cases h) kp2 (hS.z.ho (0,Blk.arr 5 [(unL 0 1).map AV.d]) qc3) rfl rfl rfl) rfl (put (q:=15) rfl (Nat.le_refl _) fun _ _=>rfl)
  ·exact zal (fun c h=>by cases h) (zcj rfl T33.tok (fun h=>by cases h) kp2 (hS.z.ho (0,Blk.arr 5 [(unL 0 1).map AV.d]) qc3) rfl rfl rfl) rfl (put (q:=16) rfl (Nat.le_refl _) fun _ _=>rfl)
  ·have hnx:=hS.z.nx
   have q31:=(htv 15 19 31 _ rfl (hall ⟨19,.data⟩ (Array.mem_of_getElem? (i:=0) rfl) rfl))
   have q32:=(htv 16 20 32 _ rfl (hall ⟨20,.data⟩ (Array.mem_of_getElem? (i:=1) rfl) rfl))
   refine za1 (k:=1) (fun c hc=>by cases hc) ((za6 (nm:=s.nx) (es:=[unL 0 1,unL 0 1]) (zat (G:=GK) (len:=2) (ps:=#[(0,.tmp 31),(1,.tmp 32)]) (nm:=s.nx) (zs:=[.d (iD 0),.d (iD 0),.d (iD 0),.d (iD 0),.d (iD 0)]) (els:=([unL 0 1,unL 0 1]:List (List D)).map fun el=>el.map AV.d) rfl ⟨T31.2,T33.1⟩ rfl rfl (by show fillA _ _ [(0,lk s.env 31),(1,lk s.env 32)]=_;rw[q31,q32];rfl) (zcr rfl) rfl (Nat.le_of_ble_eq_true rfl)) rfl).names fun m hm=>by subst hm;omega) rfl ?_
   exact put (q:=17) rfl (Nat.le_succ _) fun m hm=>by show AHeap.get (AHeap.del _ _) m=_;rw[za8,if_neg qad,zad _ _ qad]
  ·exact zal (fun c h=>by cases h) (zcj rfl T33.tok (fun h=>by cases h) kp2 (hS.z.ho (0,Blk.arr 5 [(unL 0 1).map AV.d]) qc3) rfl rfl rfl) rfl (put (q:=18) rfl (Nat.le_refl _) fun _ _=>rfl)
  ·exact zal (fun c h=>by cases h) (zcj rfl T33.tok (fun h=>by cases h) kp4 (hS.z.ho (1,Blk.arr 5 [(unL 4 1).map AV.d]) qc3) rfl rfl rfl) rfl (put (q:=19) rfl (Nat.le_refl _) fun _ _=>rfl)
  ·have hnx:=hS.z.nx
   have q34:=(htv 18 22 34 _ rfl (hall ⟨22,.data⟩ (Array.mem_of_getElem? (i:=0) rfl) rfl))
   have q35:=(htv 19 23 35 _ rfl (hall ⟨23,.data⟩ (Array.mem_of_getElem? (i:=1) rfl) rfl))
   refine za1 (k:=1) (fun c hc=>by cases hc) ((za6 (nm:=s.nx) (es:=[unL 0 1,unL 4 1]) (zat (G:=GK) (len:=2) (ps:=#[(0,.tmp 34),(1,.tmp 35)]) (nm:=s.nx) (zs:=[.d (iD 0),.d (iD 0),.d (iD 0),.d (iD 0),.d (iD 0)]) (els:=([unL 0 1,unL 4 1]:List (List D)).map fun el=>el.map AV.d) rfl ⟨T31.2,T33.1⟩ rfl rfl (by show fillA _ _ [(0,lk s.env 34),(1,lk s.env 35)]=_;rw[q34,q35];rfl) (zcr rfl) rfl (Nat.le_of_ble_eq_true rfl)) rfl).names fun m hm=>by subst hm;omega) rfl ?_
   exact put (q:=20) rfl (Nat.le_succ _) fun m hm=>by show AHeap.get (AHeap.del _ _) m=_;rw[za8,if_neg qad,zad _ _ qad]
  ·have hnx:=hS.z.nx
   have q33:=(htv 17 21 33 _ rfl (hall ⟨21,.data⟩ (Array.mem_of_getElem? (i:=0) rfl) rfl))
   have q36:=(htv 20 24 36 _ rfl (hall ⟨24,.data⟩ (Array.mem_of_getElem? (i:=1) rfl) rfl))
   refine za1 (k:=1) (fun c hc=>by cases hc) ((za6 (nm:=s.nx) (es:=[[.sl [unL 0 1,unL 0 1] true],[.sl [unL 0 1,unL 4 1] true]]) (zat (G:=GK) (len:=2) (ps:=#[(0,.tmp 33),(1,.tmp 36)]) (nm:=s.nx) (zs:=[.d (.sl [] true)]) (els:=([[.sl [unL 0 1,unL 0 1] true],[.sl [unL 0 1,unL 4 1] true]]:List (List D)).map fun el=>el.map AV.d) rfl ⟨T307.2,T31.1⟩ rfl rfl (by show fillA _ _ [(0,lk s.env 33),(1,lk s.env 36)]=_;rw[q33,q36];rfl) (zcr rfl) rfl (Nat.le_of_ble_eq_true rfl)) rfl).names fun m hm=>by subst hm;omega) rfl ?_
   exact put (q:=21) rfl (Nat.le_succ _) fun m hm=>by show AHeap.get (AHeap.del _ _) m=_;rw[za8,if_neg qad,zad _ _ qad]
  ·exact zf0 hS hL (hall ⟨0,.data⟩ (Array.mem_of_getElem? (i:=0) rfl) rfl) rfl rfl (htv 21 25 37 _ rfl (hall ⟨25,.data⟩ (Array.mem_of_getElem? (i:=1) rfl) rfl)) (List.mem_of_getElem? (i:=3) rfl) (zfz qag) zit
  ·obtain⟨hf,hc⟩:=call (q:=22) rfl (up m281)
   exact zaw (f:=281) (fi:=[]) (ca:=[]) rfl rfl hf rfl rfl hc
  ·exact zal (fun c h=>by cases h) (zbl rfl kp1) rfl (put (q:=23) rfl (Nat.le_refl _) fun _ _=>rfl)
  ·have q:=(htv 23 28 39 _ rfl (hall ⟨28,.data⟩ (Array.mem_of_getElem? (i:=0) rfl) rfl))
   obtain⟨hf,hc⟩:=call (q:=24) rfl (up (zc4 (k:=2) qag))
   exact zaw (f:=165) (fi:=[]) (ca:=[]) rfl (by show fnOf (lk s.env 39)=_;rw[q];rfl) hf rfl rfl hc
  ·have hnx:=hS.z.nx
   have q38:=(htv 22 27 38 _ rfl (hall ⟨27,.data⟩ (Array.mem_of_getElem? (i:=0) rfl) rfl))
   have q40:=(htv 24 29 40 _ rfl (hall ⟨29,.data⟩ (Array.mem_of_getElem? (i:=1) rfl) rfl))
   refine za1 (k:=1) (fun c hc=>by cases hc) ((za6 (nm:=s.nx) (es:=[unL 0 0,unL 2 0]) (zat (G:=GK) (len:=2) (ps:=#[(0,.tmp 38),(1,.tmp 40)]) (nm:=s.nx) (zs:=[.d (iD 0),.d (iD 0),.d (iD 0),.d (iD 0),.d (iD 0)]) (els:=([unL 0 0,unL 2 0]:List (List D)).map fun el=>el.map AV.d) rfl ⟨T31.2,T33.1⟩ rfl rfl (by show fillA _ _ [(0,lk s.env 38),(1,lk s.env 40)]=_;rw[q38,q40];rfl) (zcr rfl) rfl (Nat.le_of_ble_eq_true rfl)) rfl).names fun m hm=>by subst hm;omega) rfl ?_
   exact put (q:=25) rfl (Nat.le_succ _) fun m hm=>by show AHeap.get (AHeap.del _ _) m=_;rw[za8,if_neg qad,zad _ _ qad]
  ·have q:=(htv 25 30 41 _ rfl (hall ⟨30,.data⟩ (Array.mem_of_getElem? (i:=0) rfl) rfl))
   obtain⟨hf,hc⟩:=call (q:=26) rfl (up (zm2 (f:=280) (ds:=[.sl [unL 0 0,unL 2 0] true]) qah))
   exact zaw (f:=280) (fi:=[]) (ca:=[]) rfl rfl hf (by show []++[lk s.env 41]++[]=_;rw[q];rfl) rfl hc
  ·exact zf0 hS hL (hall ⟨0,.data⟩ (Array.mem_of_getElem? (i:=0) rfl) rfl) rfl rfl (htv 26 31 42 _ rfl (hall ⟨31,.data⟩ (Array.mem_of_getElem? (i:=1) rfl) rfl)) (List.mem_of_getElem? (i:=4) rfl) (zfz qag) zit
  ·obtain⟨hf,hc⟩:=call (q:=27) rfl (up m281)
   exact zaw (f:=281) (fi:=[]) (ca:=[]) rfl rfl hf rfl rfl hc
  ·exact zal (fun c h=>by cases h) (zbl rfl kp1) rfl (put (q:=28) rfl (Nat.le_refl _) fun _ _=>rfl)
  ·have q:=(htv 28 34 44 _ rfl (hall ⟨34,.data⟩ (Array.mem_of_getElem? (i:=0) rfl) rfl))
   obtain⟨hf,hc⟩:=call (q:=29) rfl (up (zc4 (k:=6) qag))
   exact zaw (f:=165) (fi:=[]) (ca:=[]) rfl (by show fnOf (lk s.env 44)=_;rw[q];rfl) hf rfl rfl hc
  ·have hnx:=hS.z.nx
   have q43:=(htv 27 33 43 _ rfl (hall ⟨33,.data⟩ (Array.mem_of_getElem? (i:=0) rfl) rfl))
   have q45:=(htv 29 35 45 _ rfl (hall ⟨35,.data⟩ (Array.mem_of_getElem? (i:=1) rfl) rfl))
   refine za1 (k:=1) (fun c hc=>by cases hc) ((za6 (nm:=s.nx) (es:=[unL 0 0,unL 6 0]) (zat (G:=GK) (len:=2) (ps:=#[(0,.tmp 43),(1,.tmp 45)]) (nm:=s.nx) (zs:=[.d (iD 0),.d (iD 0),.d (iD 0),.d (iD 0),.d (iD 0)]) (els:=([unL 0 0,unL 6 0]:List (List D)).map fun el=>el.map AV.d) rfl ⟨T31.2,T33.1⟩ rfl rfl (by show fillA _ _ [(0,lk s.env 43),(1,lk s.env 45)]=_;rw[q43,q45];rfl) (zcr rfl) rfl (Nat.le_of_ble_eq_true rfl)) rfl).names fun m hm=>by subst hm;omega) rfl ?_
   exact put (q:=30) rfl (Nat.le_succ _) fun m hm=>by show AHeap.get (AHeap.del _ _) m=_;rw[za8,if_neg qad,zad _ _ qad]
  ·have q:=(htv 30 36 46 _ rfl (hall ⟨36,.data⟩ (Array.mem_of_getElem? (i:=0) rfl) rfl))
   obtain⟨hf,hc⟩:=call (q:=31) rfl (up (zm2 (f:=280) (ds:=[.sl [unL 0 0,unL 6 0] true]) qah))
   exact zaw (f:=280) (fi:=[]) (ca:=[]) rfl rfl hf (by show []++[lk s.env 46]++[]=_;rw[q];rfl) rfl hc
  ·exact zf0 hS hL (hall ⟨0,.data⟩ (Array.mem_of_getElem? (i:=0) rfl) rfl) rfl rfl (htv 31 37 47 _ rfl (hall ⟨37,.data⟩ (Array.mem_of_getElem? (i:=1) rfl) rfl)) (List.mem_of_getElem? (i:=5) rfl) (zfz qag) zit
  ·obtain⟨hf,hc⟩:=call (q:=32) rfl (up m281)
   exact zaw (f:=281) (fi:=[]) (ca:=[]) rfl rfl hf rfl rfl hc
  ·exact zal (fun c h=>by cases h) (zbl rfl kp1) rfl (put (q:=33) rfl (Nat.le_refl _) fun _ _=>rfl)
  ·have q:=(htv 33 40 49 _ rfl (hall ⟨40,.data⟩ (Array.mem_of_getElem? (i:=0) rfl) rfl))
   obtain⟨hf,hc⟩:=call (q:=34) rfl (up (zc4 (k:=1) qag))
   exact zaw (f:=165) (fi:=[]) (ca:=[]) rfl (by show fnOf (lk s.env 49)=_;rw[q];rfl) hf rfl rfl hc
  ·have hnx:=hS.z.nx
   have q48:=(htv 32 39 48 _ rfl (hall ⟨39,.data⟩ (Array.mem_of_getElem? (i:=0) rfl) rfl))
   have q50:=(htv 34 41 50 _ rfl (hall ⟨41,.data⟩ (Array.mem_of_getElem? (i:=1) rfl) rfl))
   refine za1 (k:=1) (fun c hc=>by cases hc) ((za6 (nm:=s.nx) (es:=[unL 0 0,unL 1 0]) (zat (G:=GK) (len:=2) (ps:=#[(0,.tmp 48),(1,.tmp 50)]) (nm:=s.nx) (zs:=[.d (iD 0),.d (iD 0),.d (iD 0),.d (iD 0),.d (iD 0)]) (els:=([unL 0 0,unL 1 0]:List (List D)).map fun el=>el.map AV.d) rfl ⟨T31.2,T33.1⟩ rfl rfl (by show fillA _ _ [(0,lk s.env 48),(1,lk s.env 50)]=_;rw[q48,q50];rfl) (zcr rfl) rfl (Nat.le_of_ble_eq_true rfl)) rfl).names fun m hm=>by subst hm;omega) rfl ?_
   exact put (q:=35) rfl (Nat.le_succ _) fun m hm=>by show AHeap.get (AHeap.del _ _) m=_;rw[za8,if_neg qad,zad _ _ qad]
  ·have q:=(htv 35 42 51 _ rfl (hall ⟨42,.data⟩ (Array.mem_of_getElem? (i:=0) rfl) rfl))
   obtain⟨hf,hc⟩:=call (q:=36) rfl (up (zm2 (f:=280) (ds:=[.sl [unL 0 0,unL 1 0] true]) qah))
   exact zaw (f:=280) (fi:=[]) (ca:=[]) rfl rfl hf (by show []++[lk s.env 51]++[]=_;rw[q];rfl) rfl hc
  ·exact zf0 hS hL (hall ⟨0,.data⟩ (Array.mem_of_getElem? (i:=0) rfl) rfl) rfl rfl (htv 36 43 52 _ rfl (hall ⟨43,.data⟩ (Array.mem_of_getElem? (i:=1) rfl) rfl)) (List.mem_of_getElem? (i:=6) rfl) (zfz qag) zit
  ·obtain⟨hf,hc⟩:=call (q:=37) rfl (up m281)
   exact zaw (f:=281) (fi:=[]) (ca:=[]) rfl rfl hf rfl rfl hc
  ·exact zal (fun c h=>by cases h) (zbl rfl kp1) rfl (put (q:=38) rfl (Nat.le_refl _) fun _ _=>rfl)
  ·have q:=(htv 38 46 54 _ rfl (hall ⟨46,.data⟩ (Array.mem_of_getElem? (i:=0) rfl) rfl))
   obtain⟨hf,hc⟩:=call (q:=39) rfl (up (zc4 (k:=7) qag))
   exact zaw (f:=165) (fi:=[]) (ca:=[]) rfl (by show fnOf (lk s.env 54)=_;rw[q];rfl) hf rfl rfl hc
  ·have hnx:=hS.z.nx
   have q53:=(htv 37 45 53 _ rfl (hall ⟨45,.data⟩ (Array.mem_of_getElem? (i:=0) rfl) rfl))
   have q55:=(htv 39 47 55 _ rfl (hall ⟨47,.data⟩ (Array.mem_of_getElem? (i:=1) rfl) rfl))
   refine za1 (k:=1) (fun c hc=>by cases hc) ((za6 (nm:=s.nx) (es:=[unL 0 0,unL 7 0]) (zat (G:=GK) (len:=2) (ps:=#[(0,.tmp 53),(1,.tmp 55)]) (nm:=s.nx) (zs:=[.d (iD 0),.d (iD 0),.d (iD 0),.d (iD 0),.d (iD 0)]) (els:=([unL 0 0,unL 7 0]:List (List D)).map fun el=>el.map AV.d) rfl ⟨T31.2,T33.1⟩ rfl rfl (by show fillA _ _ [(0,lk s.env 53),(1,lk s.env 55)]=_;rw[q53,q55];rfl) (zcr rfl) rfl (Nat.le_of_ble_eq_true rfl)) rfl).names fun m hm=>by subst hm;omega) rfl ?_
   exact put (q:=40) rfl (Nat.le_succ _) fun m hm=>by show AHeap.get (AHeap.del _ _) m=_;rw[za8,if_neg qad,zad _ _ qad]
  ·have q:=(htv 40 48 56 _ rfl (hall ⟨48,.data⟩ (Array.mem_of_getElem? (i:=0) rfl) rfl))
   obtain⟨hf,hc⟩:=call (q:=41) rfl (up (zm2 (f:=280) (ds:=[.sl [unL 0 0,unL 7 0] true]) qah))
   exact zaw (f:=280) (fi:=[]) (ca:=[]) rfl rfl hf (by show []++[lk s.env 56]++[]=_;rw[q];rfl) rfl hc
  ·exact zf0 hS hL (hall ⟨0,.data⟩ (Array.mem_of_getElem? (i:=0) rfl) rfl) rfl rfl (htv 41 49 57 _ rfl (hall ⟨49,.data⟩ (Array.mem_of_getElem? (i:=1) rfl) rfl)) (List.mem_of_getElem? (i:=7) rfl) (zfz qag) zit
  ·obtain⟨hf,hc⟩:=call (q:=42) rfl (up (zm2 (f:=278) (ds:=[iD (4:Int),.fn 282 [] []]) qah))
   exact zaw (f:=278) (fi:=[]) (ca:=[]) rfl rfl hf rfl rfl hc
  ·exact zf0 hS hL (hall ⟨0,.data⟩ (Array.mem_of_getElem? (i:=0) rfl) rfl) rfl rfl (htv 42 51 58 _ rfl (hall ⟨51,.data⟩ (Array.mem_of_getElem? (i:=1) rfl) rfl)) (List.mem_of_getElem? (i:=8) rfl) (zfz qag) zit
  ·obtain⟨hf,hc⟩:=call (q:=43) rfl (up m281)
   exact zaw (f:=281) (fi:=[]) (ca:=[]) rfl rfl hf rfl rfl hc
  ·obtain⟨hf,hc⟩:=call (q:=44) rfl (up m281)
   exact zaw (f:=281) (fi:=[]) (ca:=[]) rfl rfl hf rfl rfl hc
  ·obtain⟨hf,hc⟩:=call (q:=45) rfl (up m281)
   exact zaw (f:=281) (fi:=[]) (ca:=[]) rfl rfl hf rfl rfl hc
  ·exact zal (fun c h=>by cases h) (zbl rfl kp1) rfl (put (q:=46) rfl (Nat.le_refl _) fun _ _=>rfl)
  ·have q:=(htv 46 56 62 _ rfl (hall ⟨56,.data⟩ (Array.mem_of_getElem? (i:=0) rfl) rfl))
   obtain⟨hf,hc⟩:=call (q:=47) rfl (up (zc4 (k:=4) qag))
   exact zaw (f:=165) (fi:=[]) (ca:=[]) rfl (by show fnOf (lk s.env 62)=_;rw[q];rfl) hf rfl rfl hc
  ·have hnx:=hS.z.nx
   have q59:=(htv 43 53 59 _ rfl (hall ⟨53,.data⟩ (Array.mem_of_getElem? (i:=0) rfl) rfl))
   have q60:=(htv 44 54 60 _ rfl (hall ⟨54,.data⟩ (Array.mem_of_getElem? (i:=1) rfl) rfl))
   have q61:=(htv 45 55 61 _ rfl (hall ⟨55,.data⟩ (Array.mem_of_getElem? (i:=2) rfl) rfl))
   have q63:=(htv 47 57 63 _ rfl (hall ⟨57,.data⟩ (Array.mem_of_getElem? (i:=3) rfl) rfl))
   refine za1 (k:=1) (fun c hc=>by cases hc) ((za6 (nm:=s.nx) (es:=[unL 0 0,unL 0 0,unL 0 0,unL 4 0]) (zat (G:=GK) (len:=4) (ps:=#[(0,.tmp 59),(1,.tmp 60),(2,.tmp 61),(3,.tmp 63)]) (nm:=s.nx) (zs:=[.d (iD 0),.d (iD 0),.d (iD 0),.d (iD 0),.d (iD 0)]) (els:=([unL 0 0,unL 0 0,unL 0 0,unL 4 0]:List (List D)).map fun el=>el.map AV.d) rfl ⟨T31.2,T33.1⟩ rfl rfl (by show fillA _ _ [(0,lk s.env 59),(1,lk s.env 60),(2,lk s.env 61),(3,lk s.env 63)]=_;rw[q59,q60,q61,q63];rfl) (zcr rfl) rfl (Nat.le_of_ble_eq_true rfl)) rfl).names fun m hm=>by subst hm;omega) rfl ?_
   exact put (q:=48) rfl (Nat.le_succ _) fun m hm=>by show AHeap.get (AHeap.del _ _) m=_;rw[za8,if_neg qad,zad _ _ qad]
  ·have q:=(htv 48 58 64 _ rfl (hall ⟨58,.data⟩ (Array.mem_of_getElem? (i:=0) rfl) rfl))
   obtain⟨hf,hc⟩:=call (q:=49) rfl (up (zm2 (f:=280) (ds:=[.sl [unL 0 0,unL 0 0,unL 0 0,unL 4 0] true]) qah))
   exact zaw (f:=280) (fi:=[]) (ca:=[]) rfl rfl hf (by show []++[lk s.env 64]++[]=_;rw[q];rfl) rfl hc
  ·exact zf0 hS hL (hall ⟨0,.data⟩ (Array.mem_of_getElem? (i:=0) rfl) rfl) rfl rfl (htv 49 59 65 _ rfl (hall ⟨59,.data⟩ (Array.mem_of_getElem? (i:=1) rfl) rfl)) (List.mem_of_getElem? (i:=9) rfl) (zfz qag) zit
  ·obtain⟨hf,hc⟩:=call (q:=50) rfl (up (zm2 (f:=278) (ds:=[iD (4:Int),.fn 283 [] []]) qah))
   exact zaw (f:=278) (fi:=[]) (ca:=[]) rfl rfl hf rfl rfl hc
  ·exact zf0 hS hL (hall ⟨0,.data⟩ (Array.mem_of_getElem? (i:=0) rfl) rfl) rfl rfl (htv 50 61 66 _ rfl (hall ⟨61,.data⟩ (Array.mem_of_getElem? (i:=1) rfl) rfl)) (List.mem_of_getElem? (i:=10) rfl) (zfz qag) zit
  ·obtain⟨hf,hc⟩:=call (q:=51) rfl (up (zm2 (f:=278) (ds:=[iD (8:Int),.fn 284 [] []]) qah))
   exact zaw (f:=278) (fi:=[]) (ca:=[]) rfl rfl hf rfl rfl hc
  ·exact zf0 hS hL (hall ⟨0,.data⟩ (Array.mem_of_getElem? (i:=0) rfl) rfl) rfl rfl (htv 51 63 67 _ rfl (hall ⟨63,.data⟩ (Array.mem_of_getElem? (i:=1) rfl) rfl)) (List.mem_of_getElem? (i:=11) rfl) (zfz qag) zit
  ·have h0:=(hall ⟨0,.data⟩ (Array.mem_of_getElem? (i:=0) rfl) rfl)
   refine zal (fun c h=>by cases h) (zbl rfl rfl) rfl (zj3 (i:=65) (d:=68) hS hks qag qaq ⟨hS.z.nx,hS.z.ho,fun a=>(by simp at a;rw[h0]at a;cases a),fun _=>?_,fun _=>(zar _ _ _).trans (zan _ _ qag).symm,fun a=>?_,fun _=>by simpa using h0⟩)
   ·exact qg4
   ·have:=hS.z.m66 qfq
    exact(zan _ _ qag).trans (this.trans (zan _ _ qag).symm)
  ·have h65:=(hall ⟨65,.data⟩ (Array.mem_of_getElem? (i:=0) rfl) rfl)
   have h0:=hS.z.o (.inl h65)
   have q:=hS.z.m65 h65
   refine zal (fun c h=>by cases h) (zde rfl q) rfl (st_putn (i:=66) (d:=0) hS (fun p hp e=>?_) qaq ⟨hS.z.nx,hS.z.ho,fun a=>(by simp at a;rw[h0]at a;cases a),fun _=>?_,fun _=>(zan _ _ qag).trans (q.trans (zan _ _ qag).symm),fun _=>(zar _ _ _).trans (zan _ _ qag).symm,fun _=>by simpa using h0⟩)
   ·rcases List.mem_cons.1 hp with rfl|hp
    ·cases e
    ·rcases List.mem_cons.1 hp with rfl|hp
     ·cases e
     ·rcases List.mem_cons.1 hp with rfl|hp
      ·cases e
      ·cases hp
   ·exact qg4
 ·intro L s hS hall
  exact⟨rfl,hk L s hS fun i hi=>hall i hi⟩
end Go.Tz
namespace Go.Tz
open Go Go.AL Go.Proofs
theorem chk275:chkFnL [4] Tryz.f275=true:=qah
theorem neg277:PC Pr GG 277 [.agg (unL 0 1)] (.tup [.agg (unL 4 1),iD 0]):=zf6 qah
theorem reg275c{ops:Array Oper}(hops:ops=ops275){e:List (Nat×AV)}{H:AHeap}{nx:Nat}(h2:lk e 2 = .ptr 0 5 0 0)(h4:lk e 4 = .ptr 1 5 0 0)(h1:lk e 1 = .d (.fn 165 [] []))(g0:H.get 0=some (.arr 5 [(unL 0 1).map AV.d]))(g1:H.get 1=some (.arr 5 [(unL 4 1).map AV.d]))(hnx:2<=nx){k:Exit->St->Prop}
  (hk:∀ M:List (Int×D),M.Perm (ins275.map (·.2))->k .normal ⟨[(0,.map 0)],[(0,some (.map (M.map toK)))],1⟩):RegVC Pr GK Tryz.f275.ntmps 0 [] 4 ops ⟨e,H,nx⟩ k:=by
 subst hops
 refine reg275 ⟨fun p hp=>?_,fun p _ h=>qed,⟨hnx,fun p hp=>?_,fun _=>?_,fun h=>qed,fun h=>qed,fun h=>qed,fun h=>(by rcases h with h|h<;>cases h)⟩⟩ ?_
 ·rcases List.mem_cons.1 hp with rfl|hp
  ·exact h2
  ·rcases List.mem_cons.1 hp with rfl|hp
   ·exact h4
   ·rcases List.mem_cons.1 hp with rfl|hp
    ·exact h1
    ·cases hp
 ·rcases List.mem_cons.1 hp with rfl|hp
  ·exact g0
  ·rcases List.mem_cons.1 hp with rfl|hp
   ·exact g1
   ·cases hp
 ·unfold sel
  rw[List.filter_eq_nil_iff.2 fun p _=>by simp];rfl
 ·intro L s' hS hL
  obtain⟨X,M,x1,x2,x3,x4,x5⟩:=hS.z.mp (hL 0 qag)
  rw[fin65 hL]at x5
  refine⟨_,?_,hk M x5⟩
  refine zid (fun _=>X) (fun m h=>absurd h (Nat.not_lt_zero m)) (Nat.zero_le _) ?_ ?_ ?_ trivial
  ·exact⟨⟨(hS.z.m66 (hL 66 qag)).trans x3,rfl⟩,trivial⟩
  ·exact⟨⟨Nat.zero_lt_one,_,rfl,x4,trivial⟩,trivial⟩
  ·exact⟨⟨fun _=>rfl,trivial⟩,trivial⟩
theorem table275:ACall Pr GK 275 [] [] 0 fun v H n=>∃ M:List (Int×D),v = .map 0/\H=[(0,some (.map (M.map toK)))]/\n=1/\M.Perm (ins275.map (·.2)):=by
 have c78:=up (root78 (m:=1) qag)
 have c277:=up neg277
 refine fn_walkL pok [4] Tryz.func275 chk275 ?_
 conv=>whnf
 repeat' first|((first|refine LookP.mk _ rfl ?_|refine ShlP.mk _ qaa ?_|refine zak c78 ?_|refine zak c277 ?_|refine HpP.force ?_);conv=>whnf)
 refine reg275c qah rfl rfl rfl rfl rfl (Nat.le_of_ble_eq_true rfl) ?_
 intro M hM
 conv=>whnf
 exact fin ⟨M,rfl,rfl,rfl,hM⟩
theorem isFn275:IsFn Pr 275:=isFn_ofL Tryz.func275 chk275
theorem call275{H:AHeap}{nx:Nat}{k:AV->AHeap->Nat->Prop}(hk:∀ M:List (Int×D),M.Perm (ins275.map (·.2))->k (.map nx) ((nx,some (.map (M.map toK)))::H) (nx+1)):CallVC Pr GK 275 [] H nx k :=
 ⟨isFn275,zcf (ds:=[]) table275 fun v N m ⟨M,h1,h2,h3,h4⟩=>by
  subst h1 h2 h3
  have:=hk M h4
  show k (.map (0+nx)) ((0+nx,some (Blk.ren _ (.map (M.map toK))))::H) (nx+1)
  rw[Nat.zero_add];exact this⟩
theorem allK:∀ l:List (Int×D),allLen 1 (l.map fun q=>[q.1])=true
 | []=>rfl
 | q::l=>by
  have ih:=allK l
  simp only[List.map_cons,allLen]
  simpa using ih
theorem chk263:chkFn Tryz.f263=true:=qah
theorem of263{k:Int}{v:D}(hm:(k,v)∈ins275.map (·.2)):PC Pr GK 263 [iD k] (.tup [v,iD 0]):=by
 have key:∀ M:List (Int×D),M.Perm (ins275.map (·.2))->∃ j,idxOf [k] (M.map fun q=>[q.1]) 0=some (0+j)/\(M.map toK)[j]?=some (iD k,v):=fun M hM=>by
  refine zir M 0 (hM.symm.subset hm) fun q hq e=>?_
  obtain⟨p,hp,hpe⟩:=List.mem_map.1 (hM.subset hq)
  obtain⟨p',hp',hpe'⟩:=List.mem_map.1 hm
  have:p=p':=zgz zo6 hp hp' (by rw[hpe,hpe'];exact e)
  rw[<- hpe,this,hpe']
 refine zai pok Tryz.func263 chk263 ?_
 conv=>whnf
 skip
 refine call275 ?_
 intro M hM
 obtain⟨j,j1,j2⟩:=key M hM
 rw[Nat.zero_add]at j1
 conv=>whnf
 repeat' first|((first|rw[keysK]|rw[allK]|rw[j1]|rw[j2]);conv=>whnf)
 all_goals first|exact fin rfl|(exfalso;simp at ht;done)
end Go.Tz
namespace Go.Tz
open Go Go.AL Go.Proofs
variable{val:Nat->Option Nat}{m N w:Nat}
abbrev V4(val:Nat->Option Nat):Prop:=∀ k p,val k=some p->p<4
theorem vc_len(val:Nat->Option Nat)(m N:Nat):(vcL val m N).length=N:=qc3
theorem zt9(v:Option Nat)(m:Nat):∃ a b c d e:Int,amL v m=[iD a,iD b,iD c,iD d,iD e]:=by
 cases v<;>exact⟨_,_,_,_,_,rfl⟩
theorem chk158:chkFn Tryz.f158=true:=qah
theorem chk163:chkFn Tryz.f163=true:=qah
theorem chk164:chkFn Tryz.f164=true:=qah
end Go.Tz
namespace Go.Tz
open Go Go.AL Go.Proofs
variable{val val':Nat->Option Nat}{m w P lst:Nat}
theorem chk82:chkFn Tryz.f82=true:=qah
def omL(k:Nat)(v:Option Nat)(m:Nat):List D:=match v with
 | none=>amL none m
 | some q=>unL ((k+2*q)%8) m
theorem om_ex(k:Nat)(v:Option Nat)(m:Nat):∃ a b c d e:Int,omL k v m=[iD a,iD b,iD c,iD d,iD e]:=by
 cases v<;>exact⟨_,_,_,_,_,rfl⟩
end Go.Tz
namespace Go.Tz
open Go Go.AL Go.Proofs Go.Ma
variable{w m lst:Nat}{l:List Ps}{val:Nat->Option Nat}
def cutV(w:Nat)(val:Nat->Option Nat)(k:Nat):Option Nat:=if k<2^w then val k else none
theorem cut_vc(w:Nat)(val:Nat->Option Nat)(m:Nat):vcL (cutV w val) m (2^w)=vcL val m (2^w):=by
 refine List.map_congr_left fun k hk=>?_
 unfold cutV
 rw[if_pos (List.mem_range.1 hk)]
theorem cut_amp{L:List E}(ha:Amp L w lst m val):Amp L w lst m (cutV w val):=by
 refine⟨ha.sup,ha.lt,ha.min,fun b p hb h=>ha.has b p hb ?_,fun b hb h=>ha.no b hb ?_,ha.rank⟩
 ·unfold cutV at h;rwa [if_pos hb]at h
 ·unfold cutV at h;rwa [if_pos hb]at h
theorem cut_4{L:List E}(ha:Amp L w lst m val):V4 (cutV w val):=fun k p h=>by
 unfold cutV at h
 split at h
 ·rename_i hk
  obtain⟨g,_,_,e⟩:=ha.has k p hk h
  rw[<- e];exact phE_lt _ _
 ·exact qed
theorem gen_xv(hs:SOk w l):∀ g,Gen (l.map nf) g->xv g.2<2^w:=fun g hg=>by
 have hin:inV w g.2:=by
  have:=zc5 hg
  refine zlk _ _ (fun a ha=>?_) _ this
  obtain⟨x,hx,rfl⟩:=List.mem_map.1 ha
  exact(zbv hs).inv x hx
 refine Nat.lt_pow_two_of_testBit _ fun j hj=>?_
 unfold xv
 rw[show 4096=2^12 from rfl,Nat.testBit_mod_two_pow]
 by_cases h12:j<12
 ·rw[zeo _ (zp2 (.inl ⟨hj,h12⟩)) _ hin,Bool.and_false]
 ·rw[decide_eq_false h12];rfl
end Go.Tz
namespace Go.Tz
open Go Go.AL Go.Proofs Go.Ma
def cntV(val:Nat->Option Nat)(i:Nat):Nat:=((List.range i).filter fun k=>(val k).isSome).length
theorem cnt_le'(val:Nat->Option Nat)(i:Nat):cntV val i<=i:=by
 have:=List.length_filter_le (fun k=>(val k).isSome) (List.range i)
 rwa [List.length_range]at this
theorem am_nz{p m:Nat}(hp:p<4){a b c d e:Int}(he:amL (some p) m=[iD a,iD b,iD c,iD d,iD e]):([a,b,c,d,e]==[0,0,0,0,0])=false:=by
 have:p=0\/p=1\/p=2\/p=3:=qad
 rcases this with rfl|rfl|rfl|rfl<;>(simp[amL,nmD]at he;obtain⟨rfl,rfl,rfl,rfl,rfl⟩:=he;simp)
end Go.Tz
namespace Go.Tz
open Go Go.AL Go.Proofs
structure P4 where
 a:Int
 b:Int
 c:Int
 d:Int
namespace P4
def z:P4:=⟨0,0,0,0⟩
def evn(p:P4):Prop:=(p.a-p.c)%2=0/\(p.b-p.d)%2=0
instance (p:P4):Decidable p.evn:=inferInstanceAs (Decidable (_/\_))
instance (p q:P4):Decidable (p=q):=decidable_of_iff (p.a=q.a/\p.b=q.b/\p.c=q.c/\p.d=q.d) (by
 obtain⟨a,b,c,d⟩:=p
 obtain⟨a',b',c',d'⟩:=q
 simp)
def hlf(p:P4):P4:=⟨(p.b-p.d) / 2,(p.a+p.c) / 2,(p.b+p.d) / 2,(p.c-p.a) / 2⟩
def twc(p:P4):P4:=⟨p.b-p.d,p.a+p.c,p.b+p.d,p.c-p.a⟩
def add(p q:P4):P4:=⟨p.a+q.a,p.b+q.b,p.c+q.c,p.d+q.d⟩
def con(p:P4):P4:=⟨p.a,-p.d,-p.c,-p.b⟩
def mul(p q:P4):P4:=⟨p.a*q.a-p.b*q.d-p.c*q.c-p.d*q.b,p.a*q.b+p.b*q.a-p.c*q.d-p.d*q.c,p.a*q.c+p.b*q.b+p.c*q.a-p.d*q.d,p.a*q.d+p.b*q.c+p.c*q.b+p.d*q.a⟩
def rse:Nat->P4->P4
 | 0,p=>p
 | j+1,p=>rse j p.twc
def lst:Nat->P4->P4×Nat
 | 0,p=>(p,0)
 | k+1,p=>if p.evn then lst k p.hlf else(p,k+1)
def lsz(k:Nat)(p:P4):P4×Nat:=if p=z then(z,0) else lst k p
def Bd(n:Int)(p:P4):Prop:=-n<=p.a/\p.a<=n /\ -n<=p.b/\p.b<=n /\ -n<=p.c/\p.c<=n /\ -n<=p.d/\p.d<=n
variable{p q:P4}{n m:Int}{k j:Nat}
theorem twc_hlf(h:p.evn):p.hlf.twc=p:=by
 obtain⟨a,b,c,d⟩:=p
 unfold evn at h
 simp only[hlf,twc,mk.injEq]at h⊢
 omega
theorem hlf_bd(hn:0<=n)(h:Bd n p):Bd n p.hlf:=by
 unfold Bd hlf at *
 simp only
 omega
theorem twc_bd(h:Bd n p):Bd (2*n) p.twc:=by
 unfold Bd twc at *
 simp only
 omega
theorem Bd.mono(h:Bd n p)(hm:n<=m):Bd m p:=by
 unfold Bd at *
 omega
theorem con_bd(h:Bd n p):Bd n p.con:=by
 unfold Bd con at *
 simp only
 omega
theorem add_bd(h:Bd n p)(g:Bd m q):Bd (n+m) (p.add q):=by
 unfold Bd add at *
 simp only
 omega
theorem z_rse:∀ j,rse j z=z
 | 0=>rfl
 | j+1=>z_rse j
theorem rse_twc:∀(j:Nat) (p:P4),rse j p.twc=(rse j p).twc
 | 0,_=>rfl
 | j+1,p=>rse_twc j p.twc
theorem rse_bd:∀(j:Nat) {n:Int} {p:P4},Bd n p->Bd (2^j*n) (rse j p)
 | 0,n,p,h=>by rw[Int.pow_zero,Int.one_mul];exact h
 | j+1,n,p,h=>by
  have:=rse_bd j (twc_bd h)
  rw[Int.pow_succ,Int.mul_assoc];exact this
theorem zok:∀(k:Nat) (p:P4),(lst k p).2<=k/\rse (k-(lst k p).2) (lst k p).1=p
 | 0,_=>⟨Nat.le_refl _,rfl⟩
 | k+1,p=>by
  unfold lst
  split
  ·rename_i h
   obtain⟨h1,h2⟩:=zok k p.hlf
   refine⟨by omega,?_⟩
   rw[show k+1-(lst k p.hlf).2=(k-(lst k p.hlf).2)+1 by omega]
   show rse _ (twc _)=p
   rw[rse_twc,h2,twc_hlf h]
  ·exact⟨Nat.le_refl _,by rw[Nat.sub_self];rfl⟩
theorem lst_nz(h:p≠z):(lst k p).1≠z:=fun e=>by
 have:=(zok k p).2
 rw[e,z_rse]at this
 exact h this.symm
theorem zth:∀(k:Nat) (p:P4),lst (lst k p).2 (lst k p).1=lst k p
 | 0,_=>rfl
 | k+1,p=>by
  by_cases h:p.evn
  ·have e:lst (k+1) p=lst k p.hlf:=if_pos h
   rw[e];exact zth k p.hlf
  ·have e:lst (k+1) p=(p,k+1):=if_neg h
   rw[e];exact e
theorem lsz_lsz(k:Nat)(p:P4):lsz (lsz k p).2 (lsz k p).1=lsz k p:=by
 by_cases h:p=z
 ·have e:lsz k p=(z,0):=if_pos h
  rw[e];rfl
 ·have e:lsz k p=lst k p:=if_neg h
  rw[e,lsz,if_neg (lst_nz h)]
  exact zth k p
theorem rse_lsz(k:Nat)(p:P4):(lsz k p).2<=k/\rse (k-(lsz k p).2) (lsz k p).1=p:=by
 by_cases h:p=z
 ·have e:lsz k p=(z,0):=if_pos h
  rw[e,h];exact⟨Nat.zero_le _,z_rse _⟩
 ·have e:lsz k p=lst k p:=if_neg h
  rw[e];exact zok k p
theorem lst_bd:∀(k:Nat) {p:P4},0<=n->Bd n p->Bd n (lst k p).1
 | 0,_,_,h=>h
 | k+1,p,hn,h=>by
  unfold lst
  split
  ·exact lst_bd k hn (hlf_bd hn h)
  ·exact h
theorem z_bd(hn:0<=n):Bd n z:=by
 unfold Bd z
 simp only
 omega
theorem lsz_bd(k:Nat)(hn:0<=n)(h:Bd n p):Bd n (lsz k p).1:=by
 unfold lsz
 split
 ·exact z_bd hn
 ·exact lst_bd k hn h
def Gau(p:P4):Prop:=(p.b=0/\p.d=0)\/(p.a=0/\p.c=0)
def nrm(p:P4):Int:=p.a*p.a+p.b*p.b+p.c*p.c+p.d*p.d
theorem hlf_gau(h:Gau p):Gau p.hlf:=by
 unfold Gau hlf at *
 simp only
 omega
theorem lst_gau:∀(k:Nat) {p:P4},Gau p->Gau (lst k p).1
 | 0,_,h=>h
 | k+1,p,h=>by
  unfold lst
  split
  ·exact lst_gau k (hlf_gau h)
  ·exact h
theorem mul_con(h:Gau p):p.mul p.con=⟨nrm p,0,0,0⟩:=by
 obtain⟨a,b,c,d⟩:=p
 unfold Gau at h
 simp only at h
 simp only[mul,con,nrm,mk.injEq]
 rcases h with⟨rfl,rfl⟩|⟨rfl,rfl⟩<;>(refine⟨?_,?_,?_,?_⟩<;>grind)
theorem con_evn:p.con.evn ↔ p.evn:=by
 unfold evn con
 simp only
 omega
theorem con_nz(h:p≠z):p.con≠z:=fun e=>by
 obtain⟨a,b,c,d⟩:=p
 apply h
 simp only[con,z,mk.injEq]at e⊢
 omega
theorem lsz_con{K:Nat}{S:P4}:lsz (lsz K S).2 (lsz K S).1.con=((lsz K S).1.con,(lsz K S).2):=by
 have key:∀ k {p:P4},lst k p=(p,k)->lst k p.con=(p.con,k):=fun k p h=>by
  cases k with
  | zero=>rfl
  | succ k =>
   unfold lst at h⊢
   by_cases e:p.evn
   ·rw[if_pos e]at h
    have:=(zok k p.hlf).1
    rw[h]at this
    exact absurd this (by simp only;omega)
   ·rw[if_neg fun x=>e (con_evn.1 x)]
 by_cases h:S=z
 ·have e:lsz K S=(z,0):=if_pos h
  rw[e];rfl
 ·have e:lsz K S=lst K S:=if_neg h
  rw[e,lsz,if_neg (con_nz (lst_nz h))]
  exact key _ (zth K S)
theorem lst_pow:∀(s K:Nat),2*s<=K->lst K ⟨2^s,0,0,0⟩=(⟨1,0,0,0⟩,K-2*s)
 | 0,K,_=>by
  cases K with
  | zero=>rfl
  | succ K=>rfl
 | s+1,K,h=>by
  obtain⟨K,rfl⟩:∃ k,K=k+2:=⟨K-2,by omega⟩
  have e1:evn (⟨2^(s+1),0,0,0⟩:P4):=by
   unfold evn
   simp only
   rw[Int.pow_succ];omega
  have e2:hlf (⟨2^(s+1),0,0,0⟩:P4)=⟨0,2^s,0,-2^s⟩:=by
   unfold hlf
   simp only[mk.injEq]
   rw[Int.pow_succ];omega
  have e3:evn (⟨0,2^s,0,-2^s⟩:P4):=by
   unfold evn
   simp only
   omega
  have e4:hlf (⟨0,2^s,0,-2^s⟩:P4)=⟨2^s,0,0,0⟩:=by
   unfold hlf
   simp only[mk.injEq]
   omega
  show(if evn _ then lst (K+1) _ else _)=_
  rw[if_pos e1,e2]
  show(if evn _ then lst K _ else _)=_
  rw[if_pos e3,e4,lst_pow s K qad]
  congr 1
  omega
end P4
end Go.Tz
namespace Go.Tz
open Go Go.AL Go.Proofs
variable{G:Nat->Option (List D)}
abbrev pD(p:P4):D:=.agg [iD p.a,iD p.b,iD p.c,iD p.d]
abbrev nD(p:P4)(k:Int):D:=.agg [iD p.a,iD p.b,iD p.c,iD p.d,iD k]
abbrev wD(p:P4)(k:Int):D:=.agg [iD p.a,iD p.b,iD p.c,iD p.d,iD k,.fn 219 [] []]
theorem chk149:chkFn Tryz.f149=true:=qah
theorem zec(p:P4)(k:Int):PC Pr G 149 [nD p k] (wD p k):=by
 refine zai pok Tryz.func149 chk149 ?_
 conv=>whnf
 repeat' first|((first|refine LookP.mk _ rfl ?_|refine ShlP.mk _ qaa ?_|refine HpP.force ?_);conv=>whnf)
 exact fin rfl
theorem chk150:chkFn Tryz.f150=true:=qah
theorem of150(p:P4)(k:Int):PC Pr G 150 [pD p,iD k] (nD p k):=by
 refine zai pok Tryz.func150 chk150 ?_
 conv=>whnf
 repeat' first|((first|refine LookP.mk _ rfl ?_|refine ShlP.mk _ qaa ?_|refine And.intro qbi ?_|refine HpP.force ?_);conv=>whnf)
 exact fin rfl
theorem chk151:chkFn Tryz.f151=true:=qah
theorem zgy(p:P4)(k:Int):PC Pr G 151 [wD p k] (pD p):=by
 refine zai pok Tryz.func151 chk151 ?_
 conv=>whnf
 repeat' first|((first|refine LookP.mk _ rfl ?_|refine ShlP.mk _ qaa ?_|refine HpP.force ?_);conv=>whnf)
 exact fin rfl
theorem zo7{a:Int}(h0:-1000000000000<=a)(h1:a<=1000000000000):ineg .i64 a = -a:=by
 unfold ineg;rw[IntKind.wrap_i64];omega
abbrev Big(p:P4):Prop:=P4.Bd 100000000000 p
theorem chk152:chkFn Tryz.f152=true:=qah
theorem conj152{p:P4}(h:Big p):PC Pr G 152 [pD p] (pD p.con):=by
 have e1:=zo7 (a:=p.b) qch qch
 have e2:=zo7 (a:=p.c) qch qch
 have e3:=zo7 (a:=p.d) qch qch
 refine zai pok Tryz.func152 chk152 ?_
 conv=>whnf
 repeat' first|((first|refine LookP.mk _ rfl ?_|refine ShlP.mk _ qaa ?_|refine And.intro qbi ?_|refine HpP.force ?_);conv=>whnf)
 refine fin ?_
 unfold pD P4.con
 rw[<- e1,<- e2,<- e3]
theorem tdiv2{a:Int}(h:a%2=0):a.tdiv 2=a / 2:=by
 obtain⟨c,rfl⟩:=Int.dvd_of_emod_eq_zero h
 rw[Int.mul_tdiv_cancel_left _ qag,Int.mul_ediv_cancel_left _ qag]
theorem tmod2(a:Int):(a.tmod 2==0)=decide (a%2=0):=by
 rw[Bool.eq_iff_iff,beq_iff_eq,decide_eq_true_iff,<- Int.dvd_iff_tmod_eq_zero,Int.dvd_iff_emod_eq_zero]
theorem iquo2{a:Int}(h:a%2=0)(h0:-1000000000000<=a)(h1:a<=1000000000000):iquo .i64 a 2=a / 2:=by
 unfold iquo;rw[tdiv2 h,IntKind.wrap_i64];omega
theorem chk220:chkFn Tryz.f220=true:=qah
theorem half220{p:P4}(h:Big p)(he:p.evn):PC Pr G 220 [pD p] (pD p.hlf):=by
 unfold Big P4.Bd at h
 unfold P4.evn at he
 have a1:isub .i64 p.b p.d=p.b-p.d:=zcb qad qad
 have a2:iadd .i64 p.a p.c=p.a+p.c:=zci qad qad
 have a3:iadd .i64 p.b p.d=p.b+p.d:=zci qad qad
 have a4:isub .i64 p.c p.a=p.c-p.a:=zcb qad qad
 have b1:=iquo2 (a:=p.b-p.d) qad qad qad
 have b2:=iquo2 (a:=p.a+p.c) qad qad qad
 have b3:=iquo2 (a:=p.b+p.d) qad qad qad
 have b4:=iquo2 (a:=p.c-p.a) qad qad qad
 refine zai pok Tryz.func220 chk220 ?_
 conv=>whnf
 repeat' first|((first|refine LookP.mk _ rfl ?_|refine ShlP.mk _ qaa ?_|refine And.intro qbi ?_|refine HpP.force ?_);conv=>whnf)
 refine fin ?_
 unfold pD P4.hlf
 rw[<- b1,<- b2,<- b3,<- b4,a1,a2,a3,a4]
theorem chk222:chkFn Tryz.f222=true:=qah
theorem twice222{p:P4}(h:Big p):PC Pr G 222 [pD p] (pD p.twc):=by
 unfold Big P4.Bd at h
 have a1:isub .i64 p.b p.d=p.b-p.d:=zcb qad qad
 have a2:iadd .i64 p.a p.c=p.a+p.c:=zci qad qad
 have a3:iadd .i64 p.b p.d=p.b+p.d:=zci qad qad
 have a4:isub .i64 p.c p.a=p.c-p.a:=zcb qad qad
 refine zai pok Tryz.func222 chk222 ?_
 conv=>whnf
 repeat' first|((first|refine LookP.mk _ rfl ?_|refine ShlP.mk _ qaa ?_|refine And.intro qbi ?_|refine HpP.force ?_);conv=>whnf)
 refine fin ?_
 unfold pD P4.twc
 rw[<- a1,<- a2,<- a3,<- a4]
theorem chk221:chkFn Tryz.f221=true:=qah
theorem even221{p:P4}(h:Big p):PC Pr G 221 [pD p] (.bool (decide p.evn)):=by
 unfold Big P4.Bd at h
 have a1:isub .i64 p.b p.d=p.b-p.d:=zcb qad qad
 have a4:isub .i64 p.a p.c=p.a-p.c:=zcb qad qad
 have e3:decide p.evn=(((p.a-p.c).tmod 2==0)&&((p.b-p.d).tmod 2==0)):=by
  rw[tmod2,tmod2,Bool.eq_iff_iff,decide_eq_true_iff,Bool.and_eq_true,decide_eq_true_iff,decide_eq_true_iff];rfl
 rw[e3]
 refine zai pok Tryz.func221 chk221 ?_
 conv=>whnf
 repeat' first|((first|refine LookP.mk _ rfl ?_|refine And.intro qbi ?_|rw[a4]|rw[a1]);conv=>whnf)|(intro t ht;cases t<;>conv=>whnf)
 all_goals (refine fin ?_;simp[*])
theorem chk262:chkFn Tryz.f262=true:=qah
theorem in262{q n:Int}(hn:0<=n)(hb:n<=1000000000000)(h1:-n<=q)(h2:q<=n):PC Pr G 262 [iD q,.rop [iD n] 0] (.bool true):=by
 have e:=zo7 (a:=n) qad hb
 have z1:decide (q<=n)=true:=decide_eq_true h2
 have z2:decide (q >= -n)=true:=decide_eq_true h1
 refine zai pok Tryz.func262 chk262 ?_
 conv=>whnf
 repeat' first|(rw[e];conv=>whnf)|(intro t ht;cases t<;>conv=>whnf)
 all_goals first|exact fin rfl|(exfalso;rw[z1]at ht;cases ht;done)|(exfalso;rw[z2]at ht;cases ht;done)
theorem chk274:chkFn Tryz.f274=true:=qah
theorem ev274(q:Int)(f:FuncId)(first cap:List D)(b:Bool)(hf:PC Pr G f (first++[iD q]++cap) (.bool b)):PC Pr G 274 [iD q,.rop [.fn f first cap] 0] (.bool (!b)):=by
 refine zai pok Tryz.func274 chk274 ?_
 conv=>whnf
 repeat' first|((first|rw[za2]|refine zbk hf rfl ?_);conv=>whnf)|(intro t ht;cases t<;>conv=>whnf)
 all_goals rw[ht];exact fin rfl
theorem chk261:chkFn Tryz.f261=true:=qah
theorem every261(l:List Int)(t:Bool)(f:FuncId)(first cap:List D)(p:Int->Bool)(hn:l.length<=1000)(hf:∀ q,q∈l->PC Pr G f (first++[iD q]++cap) (.bool (p q))):PC Pr G 261 [intsD l t,.fn f first cap] (.bool (l.all p)):=by
 have hi:=zvy (G:=G) l t 274 [] [.rop [.fn f first cap] 0] (fun q=>!p q) hn fun q hq=>ev274 q f first cap (p q) (hf q hq)
 refine zai pok Tryz.func261 chk261 ?_
 conv=>whnf
 have e:l.all p = !l.any (fun q=>!p q):=by
  rw[List.all_eq_not_any_not]
 rw[e]
 repeat' first|(refine zb4 hi rfl ?_)|(intro t ht;cases t<;>conv=>whnf)
 all_goals rw[ht];exact fin rfl
theorem chk218:chkFn Tryz.f218=true:=qah
theorem zp5{p:P4}{n:Int}(hn:0<=n)(hb:n<=1000000000000)(h:P4.Bd n p):PC Pr G 218 [pD p,iD n] (.bool true):=by
 have hc:=every261 (G:=G) [p.a,p.b,p.c,p.d] true 262 [] [.rop [iD n] 0] (fun _=>true) qc3 fun q hq=>by
  unfold P4.Bd at h
  refine in262 hn hb ?_ ?_<;>(simp only[List.mem_cons,List.not_mem_nil,or_false]at hq;rcases hq with rfl|rfl|rfl|rfl<;>omega)
 refine zai pok Tryz.func218 chk218 ?_
 conv=>whnf
 repeat' first|((first|refine zgx hc (.d _) (zjx (zjw rfl)) rfl ?_|refine HpP.force ?_);conv=>whnf)
 exact fin qc3
end Go.Tz
namespace Go.Tz
open Go Go.AL Go.Proofs
variable{G:Nat->Option (List D)}
theorem zn2{p:P4}{n:Int}(h:P4.Bd n p)(hn:n<=100000000000):Big p:=h.mono hn
theorem chk148:chkFn Tryz.f148=true:=qah
theorem zi2{p:P4}{k:Nat}(hk:k<=60)(h:P4.Bd 1073741824 p):PC Pr G 148 [nD p k] (iD 0):=by
 have c1:=zec (G:=G) p k
 have c2:=zgy (G:=G) p k
 have c3:=zp5 (G:=G) (p:=p) (n:=1073741824) qag qag h
 have z1:decide ((k:Int)<0)=false:=decide_eq_false qad
 have z2:decide ((k:Int)>60)=false:=decide_eq_false qad
 refine zai pok Tryz.func148 chk148 ?_
 conv=>whnf
 repeat' first|((first|refine LookP.mk _ rfl ?_|refine zak c1 ?_|refine zak c2 ?_|refine zak c3 ?_);conv=>whnf)|(intro t ht;cases t<;>conv=>whnf)
 all_goals first|exact fin rfl|(exfalso;rw[z1]at ht;cases ht;done)|(exfalso;rw[z2]at ht;cases ht;done)
theorem eq_z(p:P4):([p.a,p.b,p.c,p.d]==[0,0,0,0])=decide (p=P4.z):=by
 obtain⟨a,b,c,d⟩:=p
 rw[Bool.eq_iff_iff,decide_eq_true_iff]
 simp[P4.z]
theorem chk153:chkFn Tryz.f153=true:=qah
theorem zku{p:P4}{k:Nat}(hk:k<=60)(h:P4.Bd 1073741824 p):PC Pr G 153 [wD p k] (.tup [nD (P4.lsz k p).1 (P4.lsz k p).2,iD 0]):=by
 have c2:=zgy (G:=G) p k
 have ez:=eq_z p
 refine zai pok Tryz.func153 chk153 ?_
 conv=>whnf
 repeat' first|((first|refine LookP.mk _ rfl ?_|refine ShlP.mk _ qaa ?_|refine And.intro qbi ?_|refine zam c2 ?_|refine HpP.force ?_);conv=>whnf)|(intro t ht;cases t<;>conv=>whnf)
 ·have hnz:p≠P4.z:=fun e=>by rw[ez,decide_eq_false_iff_not]at ht;exact ht e
  have hb0:(0:Int)<=1073741824:=qag
  rw[P4.lsz,if_neg hnz]
  refine zef (σ:={ s:P4×Nat // P4.lst s.2 s.1=P4.lst k p/\s.2<=k/\P4.Bd 1073741824 s.1 }) (fun s=>⟨[(2,.ptr 1 5 0 0),(4,.ptr 2 4 0 0),(5,.d (iD s.1.2)),(6,.d (.fn 220 [pD s.1.1] [])),(7,.d (.fn 221 [pD s.1.1] []))],[(1,some (.arr 5 [(nmD 0 0 0 0 0).map AV.d])),(2,some (.arr 4 [[.d (iD s.1.1.a),.d (iD s.1.1.b),.d (iD s.1.1.c),.d (iD s.1.1.d)]]))],3⟩) (fun s=>s.1.2) ⟨(p,k),rfl,Nat.le_refl _,h⟩ ?_ qah ?_
  ·exact qf2
  ·rintro⟨⟨q,j⟩,h1,h2,h3⟩ A hA
   dsimp only at h1 h2 h3 hA⊢
   have c3:=zp5 (G:=G) (p:=q) (n:=1073741824) qag qag h3
   have c4:=of150 (G:=G) q j
   have c5:=even221 (G:=G) (zn2 h3 qag)
   have z2:decide ((j:Int)>60)=false:=decide_eq_false qad
   have z3:decide ((j:Int)<0)=false:=decide_eq_false qad
   by_cases he:q.evn
   ·rw[decide_eq_true he]at c5
    cases j with
    | zero =>
     have z1:decide (((0:Nat):Int)>0)=false:=rfl
     conv=>whnf
     repeat' first|(refine knownB z1 ?_;conv=>whnf)
     refine zef (σ:=Unit) (fun _=>⟨[(2,.ptr 1 5 0 0),(4,.ptr 2 4 0 0),(5,.d (iD ((0:Nat):Int)))],[(1,some (.arr 5 [(nmD 0 0 0 0 0).map AV.d])),(2,some (.arr 4 [[.d (iD q.a),.d (iD q.b),.d (iD q.c),.d (iD q.d)]]))],3⟩) (fun _=>0) () ?_ qah ?_
     ·exact qf2
     ·intro _ B hB
      conv=>whnf
      repeat' first|((first|refine LookP.mk _ rfl ?_|refine ShlP.mk _ qaa ?_|refine knownB z3 ?_|refine zak c3 ?_|refine zak c4 ?_|refine HpP.force ?_);conv=>whnf)
      rw[<- h1];exact fin rfl
    | succ j =>
     have z1:decide (((j+1:Nat):Int)>0)=true:=decide_eq_true qad
     have c6:=half220 (G:=G) (zn2 h3 qag) he
     have e1:isub .i64 ((j+1:Nat):Int) 1=(j:Int):=qfi
     conv=>whnf
     repeat' first|((first|refine LookP.mk _ rfl ?_|refine ShlP.mk _ qaa ?_|refine knownB z1 ?_|refine zak c5 ?_|refine zak c6 ?_|refine HpP.force ?_);conv=>whnf)
     refine hA _ ⟨(q.hlf,j),?_,by omega,P4.hlf_bd hb0 h3⟩ ?_ (by show j<j+1;omega)
     ·rw[<- h1];exact(if_pos he).symm
     ·refine zac qac ?_ ?_ trivial
      ·exact qar
      ·exact qab
   ·rw[decide_eq_false he]at c5
    have h1':P4.lst j q=(q,j):=by
     cases j with
     | zero=>rfl
     | succ j=>exact if_neg he
    conv=>whnf
    repeat' first|(refine zak c5 ?_;conv=>whnf)|(intro t ht;cases t<;>conv=>whnf)
    all_goals
     refine zef (σ:=Unit) (fun _=>⟨[(2,.ptr 1 5 0 0),(4,.ptr 2 4 0 0),(5,.d (iD (j:Int)))],[(1,some (.arr 5 [(nmD 0 0 0 0 0).map AV.d])),(2,some (.arr 4 [[.d (iD q.a),.d (iD q.b),.d (iD q.c),.d (iD q.d)]]))],3⟩) (fun _=>0) () ?_ qah ?_
     ·exact qf2
     ·intro _ B hB
      conv=>whnf
      repeat' first|((first|refine LookP.mk _ rfl ?_|refine ShlP.mk _ qaa ?_|refine knownB z3 ?_|refine zak c3 ?_|refine knownB z2 ?_|refine zak c4 ?_|refine HpP.force ?_);conv=>whnf)
      rw[<- h1,h1'];exact fin rfl
 ·rw[ez,decide_eq_true_iff]at ht
  rw[P4.lsz,if_pos ht];exact fin rfl
end Go.Tz
namespace Go.Tz
open Go Go.AL Go.Proofs
variable{G:Nat->Option (List D)}
theorem chk154:chkFn Tryz.f154=true:=qah
theorem zrr(l:List (P4×Nat))(t:Bool)(hn:l.length<=1000)(h:∀ s,s∈l->s.2<=60/\P4.Bd 1073741824 s.1):PC Pr G 154 [.sl (l.map fun s=>[iD s.1.a,iD s.1.b,iD s.1.c,iD s.1.d,iD s.2]) t] (iD 0):=by
 have hl:(l.map fun s=>[iD s.1.a,iD s.1.b,iD s.1.c,iD s.1.d,iD s.2]).length=l.length:=qc3
 have hg:∀ k:Nat,(hk:k<l.length)->(l.map fun s=>[iD s.1.a,iD s.1.b,iD s.1.c,iD s.1.d,iD s.2])[(k:Int).toNat]?=some [iD l[k].1.a,iD l[k].1.b,iD l[k].1.c,iD l[k].1.d,iD l[k].2]:=fun k hk=>by
  rw[Int.toNat_natCast,List.getElem?_map,List.getElem?_eq_getElem hk];rfl
 generalize (l.map fun s=>[iD s.1.a,iD s.1.b,iD s.1.c,iD s.1.d,iD s.2])=V at hl hg⊢
 refine zai pok Tryz.func154 chk154 ?_
 conv=>whnf
 skip
 refine zaq pok (fun k=>⟨[(6,.d (.sl V t)),(7,.d (iD V.length)),(8,.d (iD k))],[],0⟩) (V.length) (fun _=>True) (trivial) ?_ qah ?_ ?_
 ·exact qf2
 ·intro k A_k h_k I_k N_k
  have e_k:iadd .i64 (k:Int) 1=((k+1:Nat):Int):=zah qbl
  have hgk:=hg k qad
  have hs:=h (l[k]'qad) (List.getElem_mem _)
  have c1:=zi2 (G:=G) hs.1 hs.2
  have z0:((0:Int) != 0)=false:=rfl
  conv=>whnf
  repeat (refine LookP.mk _ rfl ?_;conv=>whnf)
  intro t ht
  cases t
  ·exact qbh
  conv=>whnf
  repeat' first|((first|refine LookP.mk _ (by first|rfl|exact hgk) ?_|refine ShlP.mk _ qaa ?_|refine And.intro qbi ?_|refine zak c1 ?_|refine knownB z0 ?_|refine HpP.force ?_);conv=>whnf)
  refine N_k _ ?_ ?_
  ·exact qbj
  ·exact qf4
 ·intro A_last I_last
  conv=>whnf
  repeat (refine LookP.mk _ rfl ?_;conv=>whnf)
  intro t ht
  cases t
  rotate_left
  ·exact qbh
  conv=>whnf
  skip
  exact fin rfl
theorem chk219:chkFn Tryz.f219=true:=qah
theorem zoa{a b:Int}(h0:-1000000000000<=a+b)(h1:a+b<=1000000000000):PC Pr G 219 [iD a,iD b] (iD (a+b)):=by
 have e:iadd .i64 a b=a+b:=zci qad qad
 refine zai pok Tryz.func219 chk219 ?_
 conv=>whnf
 skip
 rw[<- e];exact fin rfl
theorem chk224:chkFn Tryz.f224=true:=qah
theorem zqs{p:P4}{k K:Nat}(hk:k<=K)(hK:K<=1000)(hB:∀ j,j<=K-k->Big (P4.rse j p)):PC Pr G 224 [wD p k,iD K] (pD (P4.rse (K-k) p)):=by
 have c2:=zgy (G:=G) p k
 have e1:isub .i64 (K:Int) (k:Int)=((K-k:Nat):Int):=zkw hk qad
 refine zai pok Tryz.func224 chk224 ?_
 conv=>whnf
 repeat' first|((first|refine LookP.mk _ rfl ?_|refine ShlP.mk _ qaa ?_|refine zak c2 ?_|rw[e1]|refine HpP.force ?_);conv=>whnf)
 refine zaq pok (fun j=>⟨[(4,.ptr 1 4 0 0),(5,.ptr 2 4 0 0),(12,.d (iD (K-k:Nat))),(13,.d (iD j))],[(1,some (.arr 4 [[.d (iD 0),.d (iD 0),.d (iD 0),.d (iD 0)]])),(2,some (.arr 4 [[.d (iD (P4.rse j p).a),.d (iD (P4.rse j p).b),.d (iD (P4.rse j p).c),.d (iD (P4.rse j p).d)]]))],3⟩) ((K-k)) (fun _=>True) (trivial) ?_ qah ?_ ?_
 ·refine zac qac ?_ ?_ trivial
  ·exact qar
  ·exact qab
 ·intro j A_j h_j I_j N_j
  have e_j:iadd .i64 (j:Int) 1=((j+1:Nat):Int):=zah qbl
  have c3:=twice222 (G:=G) (hB j qad)
  have er:P4.rse (j+1) p=(P4.rse j p).twc:=P4.rse_twc j p
  rw[er]at N_j
  generalize P4.rse j p=q at c3 N_j⊢
  conv=>whnf
  repeat (refine LookP.mk _ rfl ?_;conv=>whnf)
  intro t ht
  cases t
  ·exact qbh
  conv=>whnf
  repeat' first|((first|refine LookP.mk _ rfl ?_|refine ShlP.mk _ qaa ?_|refine zak c3 ?_|refine HpP.force ?_);conv=>whnf)
  refine N_j _ ?_ ?_
  ·exact qbj
  ·refine zac qac ?_ ?_ trivial
   ·exact qc2
   ·exact qab
 ·exact qga
end Go.Tz
namespace Go.Tz
open Go Go.AL Go.Proofs
variable{G:Nat->Option (List D)}
theorem zdu{u v:Int}(h1:-16384<=u)(h2:u<=16384)(h3:-16384<=v)(h4:v<=16384):-268435456<=u*v/\u*v<=268435456:=by
 have h:(u*v).natAbs<=16384*16384:=by
  rw[Int.natAbs_mul]
  exact Nat.mul_le_mul qad qad
 omega
def upd(o:P4):Nat->Int->P4
 | 0,x=>⟨o.a+x,o.b,o.c,o.d⟩
 | 1,x=>⟨o.a,o.b+x,o.c,o.d⟩
 | 2,x=>⟨o.a,o.b,o.c+x,o.d⟩
 | _,x=>⟨o.a,o.b,o.c,o.d+x⟩
def P4.at(p:P4):Nat->Int
 | 0=>p.a
 | 1=>p.b
 | 2=>p.c
 | _=>p.d
def tmU(p q:P4)(i k:Nat)(o:P4):P4:=upd o ((i+k)%4) (if i+k<4 then p.at i*q.at k else-(p.at i*q.at k))
def tmI(p q:P4)(i:Nat):Nat->P4->P4
 | 0,o=>o
 | k+1,o=>tmU p q i k (tmI p q i k o)
def tmO(p q:P4):Nat->P4
 | 0=>P4.z
 | i+1=>tmI p q i 4 (tmO p q i)
theorem tm_mul(p q:P4):tmO p q 4=p.mul q:=by
 simp only[tmO,tmI,tmU,upd,P4.at,P4.mul,P4.z,P4.mk.injEq]
 refine⟨?_,?_,?_,?_⟩<;>(simp;try grind)
theorem zen{p:P4}(h:P4.Bd 16384 p)(i:Nat):-16384<=p.at i/\p.at i<=16384:=by
 unfold P4.Bd at h
 unfold P4.at
 split<;>omega
theorem upd_bd{o:P4}{n x m:Int}(h:P4.Bd n o)(hx:-m<=x/\x<=m)(j:Nat):P4.Bd (n+m) (upd o j x):=by
 unfold P4.Bd at *
 unfold upd
 split<;>(simp only;omega)
theorem tmU_bd{p q o:P4}(h1:P4.Bd 16384 p)(h2:P4.Bd 16384 q){n:Int}(h:P4.Bd n o)(i k:Nat):P4.Bd (n+268435456) (tmU p q i k o):=by
 have a:=zen h1 i
 have b:=zen h2 k
 have c:=zdu a.1 a.2 b.1 b.2
 refine upd_bd h ?_ _
 split<;>omega
theorem zm9{p q o:P4}(h1:P4.Bd 16384 p)(h2:P4.Bd 16384 q){n:Int}(h:P4.Bd n o)(i:Nat):∀ k:Nat,P4.Bd (n+268435456*k) (tmI p q i k o)
 | 0=>by
  show P4.Bd _ o
  exact h.mono qad
 | k+1=>by
  have:=tmU_bd h1 h2 (zm9 h1 h2 h i k) i k
  exact this.mono (by push_cast;omega)
theorem tmO_bd{p q:P4}(h1:P4.Bd 16384 p)(h2:P4.Bd 16384 q):∀ i:Nat,P4.Bd (268435456*4*i) (tmO p q i)
 | 0=>P4.z_bd qag
 | i+1=>(zm9 h1 h2 (tmO_bd h1 h2 i) i 4).mono (by push_cast;omega)
theorem chk223:chkFn Tryz.f223=true:=qah
set_option maxHeartbeats 4000000 in
theorem times223{p q:P4}(h1:P4.Bd 16384 p)(h2:P4.Bd 16384 q):PC Pr G 223 [pD p,pD q] (pD (p.mul q)):=by
 rw[<- tm_mul]
 refine zai pok Tryz.func223 chk223 ?_
 conv=>whnf
 repeat' first|(refine LookP.mk _ rfl ?_;conv=>whnf)
 refine zaq pok (fun i=>⟨[(3,.ptr 1 4 0 0),(4,.ptr 2 4 0 0),(5,.ptr 3 4 0 0),(10,.d (pD p)),(11,.d (iD i))],[(1,some (.arr 4 [[.d (iD q.a),.d (iD q.b),.d (iD q.c),.d (iD q.d)]])),(2,some (.arr 4 [[.d (iD 0),.d (iD 0),.d (iD 0),.d (iD 0)]])),(3,some (.arr 4 [[.d (iD (tmO p q i).a),.d (iD (tmO p q i).b),.d (iD (tmO p q i).c),.d (iD (tmO p q i).d)]]))],4⟩) (4) (fun _=>True) (trivial) ?_ qah ?_ ?_
 ·exact qf2
 ·intro i A_i h_i I_i N_i
  have e_i:iadd .i64 (i:Int) 1=((i+1:Nat):Int):=zah qbl
  have hob:=(tmO_bd h1 h2 i).mono (show 268435456*4*(i:Int)<=4294967296 by omega)
  have eI:tmO p q (i+1)=tmI p q i 4 (tmO p q i):=rfl
  rw[eI]at N_i
  generalize tmO p q i=o at hob N_i⊢
  have hi4:i=0\/i=1\/i=2\/i=3:=qad
  rcases hi4 with rfl|rfl|rfl|rfl
  ·conv=>whnf
   repeat (refine LookP.mk _ rfl ?_;conv=>whnf)
   intro t ht
   cases t
   ·exact qbh
   conv=>whnf
   repeat' first|((first|refine LookP.mk _ rfl ?_|refine And.intro qbk ?_|fail);conv=>whnf)|fail
   refine zaq pok (fun k=>⟨[(3,.ptr 1 4 0 0),(4,.ptr 2 4 0 0),(5,.ptr 3 4 0 0),(6,.d (iD (0:Nat))),(7,.d (iD p.a)),(10,.d (pD p)),(11,.d (iD (0:Nat))),(15,.d (pD q)),(16,.d (iD k))],[(1,some (.arr 4 [[.d (iD q.a),.d (iD q.b),.d (iD q.c),.d (iD q.d)]])),(2,some (.arr 4 [[.d (iD 0),.d (iD 0),.d (iD 0),.d (iD 0)]])),(3,some (.arr 4 [[.d (iD (tmI p q 0 k o).a),.d (iD (tmI p q 0 k o).b),.d (iD (tmI p q 0 k o).c),.d (iD (tmI p q 0 k o).d)]]))],4⟩) (4) (fun _=>True) (trivial) ?_ qah ?_ ?_
   ·exact qf2
   ·intro k A_k h_k I_k N_k
    have e_k:iadd .i64 (k:Int) 1=((k+1:Nat):Int):=zah qbl
    have hkb:=(zm9 h1 h2 hob 0 k).mono (show 4294967296+268435456*(k:Int)<=8589934592 by omega)
    have eK:tmI p q 0 (k+1) o=tmU p q 0 k (tmI p q 0 k o):=rfl
    rw[eK]at N_k
    generalize tmI p q 0 k o=u at hkb N_k⊢
    have hk4:k=0\/k=1\/k=2\/k=3:=qad
    have hai:=zen h1 0
    unfold P4.Bd at hkb
    rcases hk4 with rfl|rfl|rfl|rfl
    ·have hbk:=zen h2 0
     have hm:-268435456<=p.a*q.a/\p.a*q.a<=268435456:=zdu hai.1 hai.2 hbk.1 hbk.2
     have em:imul .i64 p.a q.a=p.a*q.a:=zch qad qad
     have eo:iadd .i64 u.a (p.a*q.a)=(tmU p q 0 0 u).a:=zci qad qad
     have es:iadd .i64 ((0:Nat):Int) ((0:Nat):Int)=0:=qag
     have hl4:decide ((0:Int)<4)=true:=qag
     conv=>whnf
     repeat (refine LookP.mk _ rfl ?_;conv=>whnf)
     intro t ht
     cases t
     ·exact qbh
     conv=>whnf
     repeat' first|((first|refine LookP.mk _ rfl ?_|refine ShlP.mk _ qaa ?_|refine And.intro qbk ?_|rw[es]|refine knownB hl4 ?_|rw[em]|rw[eo]|refine HpP.force ?_);conv=>whnf)
     refine N_k _ ?_ ?_
     ·exact qbj
     ·exact qf4
    ·have hbk:=zen h2 1
     have hm:-268435456<=p.a*q.b/\p.a*q.b<=268435456:=zdu hai.1 hai.2 hbk.1 hbk.2
     have em:imul .i64 p.a q.b=p.a*q.b:=zch qad qad
     have eo:iadd .i64 u.b (p.a*q.b)=(tmU p q 0 1 u).b:=zci qad qad
     have es:iadd .i64 ((0:Nat):Int) ((1:Nat):Int)=1:=qag
     have hl4:decide ((1:Int)<4)=true:=qag
     conv=>whnf
     repeat (refine LookP.mk _ rfl ?_;conv=>whnf)
     intro t ht
     cases t
     ·exact qbh
     conv=>whnf
     repeat' first|((first|refine LookP.mk _ rfl ?_|refine ShlP.mk _ qaa ?_|refine And.intro qbk ?_|rw[es]|refine knownB hl4 ?_|rw[em]|rw[eo]|refine HpP.force ?_);conv=>whnf)
     refine N_k _ ?_ ?_
     ·exact qbj
     ·exact qf4
    ·have hbk:=zen h2 2
     have hm:-268435456<=p.a*q.c/\p.a*q.c<=268435456:=zdu hai.1 hai.2 hbk.1 hbk.2
     have em:imul .i64 p.a q.c=p.a*q.c:=zch qad qad
     have eo:iadd .i64 u.c (p.a*q.c)=(tmU p q 0 2 u).c:=zci qad qad
     have es:iadd .i64 ((0:Nat):Int) ((2:Nat):Int)=2:=qag
     have hl4:decide ((2:Int)<4)=true:=qag
     conv=>whnf
     repeat (refine LookP.mk _ rfl ?_;conv=>whnf)
     intro t ht
     cases t
     ·exact qbh
     conv=>whnf
     repeat' first|((first|refine LookP.mk _ rfl ?_|refine ShlP.mk _ qaa ?_|refine And.intro qbk ?_|rw[es]|refine knownB hl4 ?_|rw[em]|rw[eo]|refine HpP.force ?_);conv=>whnf)
     refine N_k _ ?_ ?_
     ·exact qbj
     ·exact qf4
    ·have hbk:=zen h2 3
     have hm:-268435456<=p.a*q.d/\p.a*q.d<=268435456:=zdu hai.1 hai.2 hbk.1 hbk.2
     have em:imul .i64 p.a q.d=p.a*q.d:=zch qad qad
     have eo:iadd .i64 u.d (p.a*q.d)=(tmU p q 0 3 u).d:=zci qad qad
     have es:iadd .i64 ((0:Nat):Int) ((3:Nat):Int)=3:=qag
     have hl4:decide ((3:Int)<4)=true:=qag
     conv=>whnf
     repeat (refine LookP.mk _ rfl ?_;conv=>whnf)
     intro t ht
     cases t
     ·exact qbh
     conv=>whnf
     repeat' first|((first|refine LookP.mk _ rfl ?_|refine ShlP.mk _ qaa ?_|refine And.intro qbk ?_|rw[es]|refine knownB hl4 ?_|rw[em]|rw[eo]|refine HpP.force ?_);conv=>whnf)
     refine N_k _ ?_ ?_
     ·exact qbj
     ·exact qf4
   ·exact qf9
  ·conv=>whnf
   repeat (refine LookP.mk _ rfl ?_;conv=>whnf)
   intro t ht
   cases t
   ·exact qbh
   conv=>whnf
   repeat' first|((first|refine LookP.mk _ rfl ?_|refine And.intro qbk ?_|fail);conv=>whnf)|fail
   refine zaq pok (fun k=>⟨[(3,.ptr 1 4 0 0),(4,.ptr 2 4 0 0),(5,.ptr 3 4 0 0),(6,.d (iD (1:Nat))),(7,.d (iD p.b)),(10,.d (pD p)),(11,.d (iD (1:Nat))),(15,.d (pD q)),(16,.d (iD k))],[(1,some (.arr 4 [[.d (iD q.a),.d (iD q.b),.d (iD q.c),.d (iD q.d)]])),(2,some (.arr 4 [[.d (iD 0),.d (iD 0),.d (iD 0),.d (iD 0)]])),(3,some (.arr 4 [[.d (iD (tmI p q 1 k o).a),.d (iD (tmI p q 1 k o).b),.d (iD (tmI p q 1 k o).c),.d (iD (tmI p q 1 k o).d)]]))],4⟩) (4) (fun _=>True) (trivial) ?_ qah ?_ ?_
   ·exact qf2
   ·intro k A_k h_k I_k N_k
    have e_k:iadd .i64 (k:Int) 1=((k+1:Nat):Int):=zah qbl
    have hkb:=(zm9 h1 h2 hob 1 k).mono (show 4294967296+268435456*(k:Int)<=8589934592 by omega)
    have eK:tmI p q 1 (k+1) o=tmU p q 1 k (tmI p q 1 k o):=rfl
    rw[eK]at N_k
    generalize tmI p q 1 k o=u at hkb N_k⊢
    have hk4:k=0\/k=1\/k=2\/k=3:=qad
    have hai:=zen h1 1
    unfold P4.Bd at hkb
    rcases hk4 with rfl|rfl|rfl|rfl
    ·have hbk:=zen h2 0
     have hm:-268435456<=p.b*q.a/\p.b*q.a<=268435456:=zdu hai.1 hai.2 hbk.1 hbk.2
     have em:imul .i64 p.b q.a=p.b*q.a:=zch qad qad
     have eo:iadd .i64 u.b (p.b*q.a)=(tmU p q 1 0 u).b:=zci qad qad
     have es:iadd .i64 ((1:Nat):Int) ((0:Nat):Int)=1:=qag
     have hl4:decide ((1:Int)<4)=true:=qag
     conv=>whnf
     repeat (refine LookP.mk _ rfl ?_;conv=>whnf)
     intro t ht
     cases t
     ·exact qbh
     conv=>whnf
     repeat' first|((first|refine LookP.mk _ rfl ?_|refine ShlP.mk _ qaa ?_|refine And.intro qbk ?_|rw[es]|refine knownB hl4 ?_|rw[em]|rw[eo]|refine HpP.force ?_);conv=>whnf)
     refine N_k _ ?_ ?_
     ·exact qbj
     ·exact qf4
    ·have hbk:=zen h2 1
     have hm:-268435456<=p.b*q.b/\p.b*q.b<=268435456:=zdu hai.1 hai.2 hbk.1 hbk.2
     have em:imul .i64 p.b q.b=p.b*q.b:=zch qad qad
     have eo:iadd .i64 u.c (p.b*q.b)=(tmU p q 1 1 u).c:=zci qad qad
     have es:iadd .i64 ((1:Nat):Int) ((1:Nat):Int)=2:=qag
     have hl4:decide ((2:Int)<4)=true:=qag
     conv=>whnf
     repeat (refine LookP.mk _ rfl ?_;conv=>whnf)
     intro t ht
     cases t
     ·exact qbh
     conv=>whnf
     repeat' first|((first|refine LookP.mk _ rfl ?_|refine ShlP.mk _ qaa ?_|refine And.intro qbk ?_|rw[es]|refine knownB hl4 ?_|rw[em]|rw[eo]|refine HpP.force ?_);conv=>whnf)
     refine N_k _ ?_ ?_
     ·exact qbj
     ·exact qf4
    ·have hbk:=zen h2 2
     have hm:-268435456<=p.b*q.c/\p.b*q.c<=268435456:=zdu hai.1 hai.2 hbk.1 hbk.2
     have em:imul .i64 p.b q.c=p.b*q.c:=zch qad qad
     have eo:iadd .i64 u.d (p.b*q.c)=(tmU p q 1 2 u).d:=zci qad qad
     have es:iadd .i64 ((1:Nat):Int) ((2:Nat):Int)=3:=qag
     have hl4:decide ((3:Int)<4)=true:=qag
     conv=>whnf
     repeat (refine LookP.mk _ rfl ?_;conv=>whnf)
     intro t ht
     cases t
     ·exact qbh
     conv=>whnf
     repeat' first|((first|refine LookP.mk _ rfl ?_|refine ShlP.mk _ qaa ?_|refine And.intro qbk ?_|rw[es]|refine knownB hl4 ?_|rw[em]|rw[eo]|refine HpP.force ?_);conv=>whnf)
     refine N_k _ ?_ ?_
     ·exact qbj
     ·exact qf4
    ·have hbk:=zen h2 3
     have hm:-268435456<=p.b*q.d/\p.b*q.d<=268435456:=zdu hai.1 hai.2 hbk.1 hbk.2
     have em:imul .i64 p.b q.d=p.b*q.d:=zch qad qad
     have eo:isub .i64 u.a (p.b*q.d)=(tmU p q 1 3 u).a:=qbr
     have es:iadd .i64 ((1:Nat):Int) ((3:Nat):Int)=4:=qag
     have hl4:decide ((4:Int)<4)=false:=qag
     have e4:isub .i64 4 4=0:=qag
     conv=>whnf
     repeat (refine LookP.mk _ rfl ?_;conv=>whnf)
     intro t ht
     cases t
     ·exact qbh
     conv=>whnf
     repeat' first|((first|refine LookP.mk _ rfl ?_|refine ShlP.mk _ qaa ?_|refine And.intro qbk ?_|rw[es]|refine knownB hl4 ?_|rw[e4]|rw[em]|rw[eo]|refine HpP.force ?_);conv=>whnf)
     refine N_k _ ?_ ?_
     ·exact qbj
     ·exact qf4
   ·exact qf9
  ·conv=>whnf
   repeat (refine LookP.mk _ rfl ?_;conv=>whnf)
   intro t ht
   cases t
   ·exact qbh
   conv=>whnf
   repeat' first|((first|refine LookP.mk _ rfl ?_|refine And.intro qbk ?_|fail);conv=>whnf)|fail
   refine zaq pok (fun k=>⟨[(3,.ptr 1 4 0 0),(4,.ptr 2 4 0 0),(5,.ptr 3 4 0 0),(6,.d (iD (2:Nat))),(7,.d (iD p.c)),(10,.d (pD p)),(11,.d (iD (2:Nat))),(15,.d (pD q)),(16,.d (iD k))],[(1,some (.arr 4 [[.d (iD q.a),.d (iD q.b),.d (iD q.c),.d (iD q.d)]])),(2,some (.arr 4 [[.d (iD 0),.d (iD 0),.d (iD 0),.d (iD 0)]])),(3,some (.arr 4 [[.d (iD (tmI p q 2 k o).a),.d (iD (tmI p q 2 k o).b),.d (iD (tmI p q 2 k o).c),.d (iD (tmI p q 2 k o).d)]]))],4⟩) (4) (fun _=>True) (trivial) ?_ qah ?_ ?_
   ·exact qf2
   ·intro k A_k h_k I_k N_k
    have e_k:iadd .i64 (k:Int) 1=((k+1:Nat):Int):=zah qbl
    have hkb:=(zm9 h1 h2 hob 2 k).mono (show 4294967296+268435456*(k:Int)<=8589934592 by omega)
    have eK:tmI p q 2 (k+1) o=tmU p q 2 k (tmI p q 2 k o):=rfl
    rw[eK]at N_k
    generalize tmI p q 2 k o=u at hkb N_k⊢
    have hk4:k=0\/k=1\/k=2\/k=3:=qad
    have hai:=zen h1 2
    unfold P4.Bd at hkb
    rcases hk4 with rfl|rfl|rfl|rfl
    ·have hbk:=zen h2 0
     have hm:-268435456<=p.c*q.a/\p.c*q.a<=268435456:=zdu hai.1 hai.2 hbk.1 hbk.2
     have em:imul .i64 p.c q.a=p.c*q.a:=zch qad qad
     have eo:iadd .i64 u.c (p.c*q.a)=(tmU p q 2 0 u).c:=zci qad qad
     have es:iadd .i64 ((2:Nat):Int) ((0:Nat):Int)=2:=qag
     have hl4:decide ((2:Int)<4)=true:=qag
     conv=>whnf
     repeat (refine LookP.mk _ rfl ?_;conv=>whnf)
     intro t ht
     cases t
     ·exact qbh
     conv=>whnf
     repeat' first|((first|refine LookP.mk _ rfl ?_|refine ShlP.mk _ qaa ?_|refine And.intro qbk ?_|rw[es]|refine knownB hl4 ?_|rw[em]|rw[eo]|refine HpP.force ?_);conv=>whnf)
     refine N_k _ ?_ ?_
     ·exact qbj
     ·exact qf4
    ·have hbk:=zen h2 1
     have hm:-268435456<=p.c*q.b/\p.c*q.b<=268435456:=zdu hai.1 hai.2 hbk.1 hbk.2
     have em:imul .i64 p.c q.b=p.c*q.b:=zch qad qad
     have eo:iadd .i64 u.d (p.c*q.b)=(tmU p q 2 1 u).d:=zci qad qad
     have es:iadd .i64 ((2:Nat):Int) ((1:Nat):Int)=3:=qag
     have hl4:decide ((3:Int)<4)=true:=qag
     conv=>whnf
     repeat (refine LookP.mk _ rfl ?_;conv=>whnf)
     intro t ht
     cases t
     ·exact qbh
     conv=>whnf
     repeat' first|((first|refine LookP.mk _ rfl ?_|refine ShlP.mk _ qaa ?_|refine And.intro qbk ?_|rw[es]|refine knownB hl4 ?_|rw[em]|rw[eo]|refine HpP.force ?_);conv=>whnf)
     refine N_k _ ?_ ?_
     ·exact qbj
     ·exact qf4
    ·have hbk:=zen h2 2
     have hm:-268435456<=p.c*q.c/\p.c*q.c<=268435456:=zdu hai.1 hai.2 hbk.1 hbk.2
     have em:imul .i64 p.c q.c=p.c*q.c:=zch qad qad
     have eo:isub .i64 u.a (p.c*q.c)=(tmU p q 2 2 u).a:=qbr
     have es:iadd .i64 ((2:Nat):Int) ((2:Nat):Int)=4:=qag
     have hl4:decide ((4:Int)<4)=false:=qag
     have e4:isub .i64 4 4=0:=qag
     conv=>whnf
     repeat (refine LookP.mk _ rfl ?_;conv=>whnf)
     intro t ht
     cases t
     ·exact qbh
     conv=>whnf
     repeat' first|((first|refine LookP.mk _ rfl ?_|refine ShlP.mk _ qaa ?_|refine And.intro qbk ?_|rw[es]|refine knownB hl4 ?_|rw[e4]|rw[em]|rw[eo]|refine HpP.force ?_);conv=>whnf)
     refine N_k _ ?_ ?_
     ·exact qbj
     ·exact qf4
    ·have hbk:=zen h2 3
     have hm:-268435456<=p.c*q.d/\p.c*q.d<=268435456:=zdu hai.1 hai.2 hbk.1 hbk.2
     have em:imul .i64 p.c q.d=p.c*q.d:=zch qad qad
     have eo:isub .i64 u.b (p.c*q.d)=(tmU p q 2 3 u).b:=qbr
     have es:iadd .i64 ((2:Nat):Int) ((3:Nat):Int)=5:=qag
     have hl4:decide ((5:Int)<4)=false:=qag
     have e4:isub .i64 5 4=1:=qag
     conv=>whnf
     repeat (refine LookP.mk _ rfl ?_;conv=>whnf)
     intro t ht
     cases t
     ·exact qbh
     conv=>whnf
     repeat' first|((first|refine LookP.mk _ rfl ?_|refine ShlP.mk _ qaa ?_|refine And.intro qbk ?_|rw[es]|refine knownB hl4 ?_|rw[e4]|rw[em]|rw[eo]|refine HpP.force ?_);conv=>whnf)
     refine N_k _ ?_ ?_
     ·exact qbj
     ·exact qf4
   ·exact qf9
  ·conv=>whnf
   repeat (refine LookP.mk _ rfl ?_;conv=>whnf)
   intro t ht
   cases t
   ·exact qbh
   conv=>whnf
   repeat' first|((first|refine LookP.mk _ rfl ?_|refine And.intro qbk ?_|fail);conv=>whnf)|fail
   refine zaq pok (fun k=>⟨[(3,.ptr 1 4 0 0),(4,.ptr 2 4 0 0),(5,.ptr 3 4 0 0),(6,.d (iD (3:Nat))),(7,.d (iD p.d)),(10,.d (pD p)),(11,.d (iD (3:Nat))),(15,.d (pD q)),(16,.d (iD k))],[(1,some (.arr 4 [[.d (iD q.a),.d (iD q.b),.d (iD q.c),.d (iD q.d)]])),(2,some (.arr 4 [[.d (iD 0),.d (iD 0),.d (iD 0),.d (iD 0)]])),(3,some (.arr 4 [[.d (iD (tmI p q 3 k o).a),.d (iD (tmI p q 3 k o).b),.d (iD (tmI p q 3 k o).c),.d (iD (tmI p q 3 k o).d)]]))],4⟩) (4) (fun _=>True) (trivial) ?_ qah ?_ ?_
   ·exact qf2
   ·intro k A_k h_k I_k N_k
    have e_k:iadd .i64 (k:Int) 1=((k+1:Nat):Int):=zah qbl
    have hkb:=(zm9 h1 h2 hob 3 k).mono (show 4294967296+268435456*(k:Int)<=8589934592 by omega)
    have eK:tmI p q 3 (k+1) o=tmU p q 3 k (tmI p q 3 k o):=rfl
    rw[eK]at N_k
    generalize tmI p q 3 k o=u at hkb N_k⊢
    have hk4:k=0\/k=1\/k=2\/k=3:=qad
    have hai:=zen h1 3
    unfold P4.Bd at hkb
    rcases hk4 with rfl|rfl|rfl|rfl
    ·have hbk:=zen h2 0
     have hm:-268435456<=p.d*q.a/\p.d*q.a<=268435456:=zdu hai.1 hai.2 hbk.1 hbk.2
     have em:imul .i64 p.d q.a=p.d*q.a:=zch qad qad
     have eo:iadd .i64 u.d (p.d*q.a)=(tmU p q 3 0 u).d:=zci qad qad
     have es:iadd .i64 ((3:Nat):Int) ((0:Nat):Int)=3:=qag
     have hl4:decide ((3:Int)<4)=true:=qag
     conv=>whnf
     repeat (refine LookP.mk _ rfl ?_;conv=>whnf)
     intro t ht
     cases t
     ·exact qbh
     conv=>whnf
     repeat' first|((first|refine LookP.mk _ rfl ?_|refine ShlP.mk _ qaa ?_|refine And.intro qbk ?_|rw[es]|refine knownB hl4 ?_|rw[em]|rw[eo]|refine HpP.force ?_);conv=>whnf)
     refine N_k _ ?_ ?_
     ·exact qbj
     ·exact qf4
    ·have hbk:=zen h2 1
     have hm:-268435456<=p.d*q.b/\p.d*q.b<=268435456:=zdu hai.1 hai.2 hbk.1 hbk.2
     have em:imul .i64 p.d q.b=p.d*q.b:=zch qad qad
     have eo:isub .i64 u.a (p.d*q.b)=(tmU p q 3 1 u).a:=qbr
     have es:iadd .i64 ((3:Nat):Int) ((1:Nat):Int)=4:=qag
     have hl4:decide ((4:Int)<4)=false:=qag
     have e4:isub .i64 4 4=0:=qag
     conv=>whnf
     repeat (refine LookP.mk _ rfl ?_;conv=>whnf)
     intro t ht
     cases t
     ·exact qbh
     conv=>whnf
     repeat' first|((first|refine LookP.mk _ rfl ?_|refine ShlP.mk _ qaa ?_|refine And.intro qbk ?_|rw[es]|refine knownB hl4 ?_|rw[e4]|rw[em]|rw[eo]|refine HpP.force ?_);conv=>whnf)
     refine N_k _ ?_ ?_
     ·exact qbj
     ·exact qf4
    ·have hbk:=zen h2 2
     have hm:-268435456<=p.d*q.c/\p.d*q.c<=268435456:=zdu hai.1 hai.2 hbk.1 hbk.2
     have em:imul .i64 p.d q.c=p.d*q.c:=zch qad qad
     have eo:isub .i64 u.b (p.d*q.c)=(tmU p q 3 2 u).b:=qbr
     have es:iadd .i64 ((3:Nat):Int) ((2:Nat):Int)=5:=qag
     have hl4:decide ((5:Int)<4)=false:=qag
     have e4:isub .i64 5 4=1:=qag
     conv=>whnf
     repeat (refine LookP.mk _ rfl ?_;conv=>whnf)
     intro t ht
     cases t
     ·exact qbh
     conv=>whnf
     repeat' first|((first|refine LookP.mk _ rfl ?_|refine ShlP.mk _ qaa ?_|refine And.intro qbk ?_|rw[es]|refine knownB hl4 ?_|rw[e4]|rw[em]|rw[eo]|refine HpP.force ?_);conv=>whnf)
     refine N_k _ ?_ ?_
     ·exact qbj
     ·exact qf4
    ·have hbk:=zen h2 3
     have hm:-268435456<=p.d*q.d/\p.d*q.d<=268435456:=zdu hai.1 hai.2 hbk.1 hbk.2
     have em:imul .i64 p.d q.d=p.d*q.d:=zch qad qad
     have eo:isub .i64 u.c (p.d*q.d)=(tmU p q 3 3 u).c:=qbr
     have es:iadd .i64 ((3:Nat):Int) ((3:Nat):Int)=6:=qag
     have hl4:decide ((6:Int)<4)=false:=qag
     have e4:isub .i64 6 4=2:=qag
     conv=>whnf
     repeat (refine LookP.mk _ rfl ?_;conv=>whnf)
     intro t ht
     cases t
     ·exact qbh
     conv=>whnf
     repeat' first|((first|refine LookP.mk _ rfl ?_|refine ShlP.mk _ qaa ?_|refine And.intro qbk ?_|rw[es]|refine knownB hl4 ?_|rw[e4]|rw[em]|rw[eo]|refine HpP.force ?_);conv=>whnf)
     refine N_k _ ?_ ?_
     ·exact qbj
     ·exact qf4
   ·exact qf9
 ·exact qga
end Go.Tz
namespace Go.Tz
open Go Go.AL Go.Proofs
variable{G:Nat->Option (List D)}
theorem chk155:chkFn Tryz.f155=true:=qah
theorem mul155{p q:P4}{k j:Nat}(hk:k<=1000)(hj:j<=1000)(h1:P4.Bd 16384 p)(h2:P4.Bd 16384 q):PC Pr G 155 [wD p k,nD q j] (wD (p.mul q) (k+j:Nat)):=by
 have c1:=zgy (G:=G) p k
 have c2:=zec (G:=G) q j
 have c3:=zgy (G:=G) q j
 have c4:=times223 (G:=G) h1 h2
 have e1:iadd .i64 (k:Int) (j:Int)=((k+j:Nat):Int):=zah qad
 have c5:=of150 (G:=G) (p.mul q) (k+j:Nat)
 have c6:=zec (G:=G) (p.mul q) (k+j:Nat)
 refine zai pok Tryz.func155 chk155 ?_
 conv=>whnf
 repeat' first|((first|refine LookP.mk _ rfl ?_|refine ShlP.mk _ qaa ?_|refine zam c1 ?_|refine zam c2 ?_|refine zam c3 ?_|refine zam c4 ?_|rw[e1]|refine zam c5 ?_|refine zam c6 ?_|refine HpP.force ?_);conv=>whnf)
 exact fin rfl
theorem chk75:chkFn Tryz.f75=true:=qah
theorem zq6{p q:P4}{k j:Nat}(hkj:k+j<=60)(h1:P4.Bd 16384 p)(h2:P4.Bd 16384 q)(hb:P4.Bd 1073741824 (p.mul q)):PC Pr G 75 [nD p k,nD q j] (.tup [nD (P4.lsz (k+j) (p.mul q)).1 (P4.lsz (k+j) (p.mul q)).2,iD 0]):=by
 have c0:=zrr (G:=G) [(p,k),(q,j)] true qc3 (fun s hs=>by
  simp only[List.mem_cons,List.not_mem_nil,or_false]at hs
  rcases hs with rfl|rfl
  ·exact⟨by show k<=60;omega,h1.mono qag⟩
  ·exact⟨by show j<=60;omega,h2.mono qag⟩)
 have c1:=zec (G:=G) p k
 have c2:=mul155 (G:=G) (k:=k) (j:=j) qad qad h1 h2
 have c3:=zku (G:=G) hkj hb
 have z0:((0:Int) != 0)=false:=rfl
 refine zai pok Tryz.func75 chk75 ?_
 conv=>whnf
 repeat' first|((first|refine LookP.mk _ rfl ?_|refine ShlP.mk _ qaa ?_|refine zot c0 (zda rfl rfl) rfl ?_|refine zam c1 ?_|refine zam c2 ?_|refine zam c3 ?_|refine knownB z0 ?_|refine HpP.force ?_);conv=>whnf)
 exact fin rfl
theorem chk74:chkFn Tryz.f74=true:=qah
theorem conj74g{p:P4}{k:Nat}(hk:k<=60)(h1:P4.Bd 1073741824 p):PC Pr G 74 [nD p k] (.tup [nD (P4.lsz k p.con).1 (P4.lsz k p.con).2,iD 0]):=by
 have c0:=zi2 (G:=G) hk h1
 have c1:=zec (G:=G) p k
 have c2:=zgy (G:=G) p k
 have c3:=conj152 (G:=G) (zn2 h1 qag)
 have c4:=of150 (G:=G) p.con k
 have c5:=zec (G:=G) p.con k
 have c6:=zku (G:=G) hk (P4.con_bd h1)
 have z0:((0:Int) != 0)=false:=rfl
 refine zai pok Tryz.func74 chk74 ?_
 conv=>whnf
 repeat' first|((first|refine LookP.mk _ rfl ?_|refine ShlP.mk _ qaa ?_|refine zak c0 ?_|refine zam c1 ?_|refine zam c2 ?_|refine zam c3 ?_|refine zam c4 ?_|refine zam c5 ?_|refine zam c6 ?_|refine knownB z0 ?_|refine HpP.force ?_);conv=>whnf)
 exact fin rfl
def mixP(x y:P4):Nat->P4
 | 0=>x
 | 1=>⟨x.a+y.a,x.b,x.c,x.d⟩
 | 2=>⟨x.a+y.a,x.b+y.b,x.c,x.d⟩
 | 3=>⟨x.a+y.a,x.b+y.b,x.c+y.c,x.d⟩
 | _+4=>x.add y
theorem chk156:chkFn Tryz.f156=true:=qah
theorem add156{p q:P4}{k j K:Nat}(hK:K=max k j)(hK6:K<=60)(hB1:∀ i,i<=K-k->Big (P4.rse i p))(hB2:∀ i,i<=K-j->Big (P4.rse i q))(hb:P4.Bd 1073741824 ((P4.rse (K-k) p).add (P4.rse (K-j) q))) :
  PC Pr G 156 [wD p k,nD q j] (.tup [nD (P4.lsz K ((P4.rse (K-k) p).add (P4.rse (K-j) q))).1 (P4.lsz K ((P4.rse (K-k) p).add (P4.rse (K-j) q))).2,iD 0]):=by
 have c1:=zqs (G:=G) (p:=p) (k:=k) (K:=K) qad qad hB1
 have c2:=zec (G:=G) q j
 have c3:=zqs (G:=G) (p:=q) (k:=j) (K:=K) qad qad hB2
 have g1:=hB1 (K-k) (Nat.le_refl _)
 have g2:=hB2 (K-j) (Nat.le_refl _)
 generalize P4.rse (K-k) p=x at c1 g1 hb⊢
 generalize P4.rse (K-j) q=y at c3 g2 hb⊢
 have c4:=of150 (G:=G) (x.add y) K
 have c5:=zec (G:=G) (x.add y) K
 have c6:=zku (G:=G) hK6 hb
 have eK:(if(j:Int)>(k:Int) then(j:Int) else(k:Int))=(K:Int):=by split<;>omega
 refine zai pok Tryz.func156 chk156 ?_
 conv=>whnf
 repeat' first|((first|refine LookP.mk _ rfl ?_|refine ShlP.mk _ qaa ?_|refine And.intro qbi ?_|rw[eK]|refine zam c1 ?_|refine zam c2 ?_|refine zam c3 ?_|refine HpP.force ?_);conv=>whnf)
 refine zaq pok (fun i=>⟨[(2,.ptr 0 6 0 0),(4,.ptr 2 5 0 0),(6,.d (iD K)),(7,.ptr 3 4 0 0),(8,.ptr 4 4 0 0),(23,.d (iD i))],[(0,some (.arr 6 [[.d (iD p.a),.d (iD p.b),.d (iD p.c),.d (iD p.d),.d (iD k),.d (.fn 219 [] [])]])),(2,some (.arr 5 [(nmD 0 0 0 0 0).map AV.d])),(3,some (.arr 4 [[.d (iD (mixP x y i).a),.d (iD (mixP x y i).b),.d (iD (mixP x y i).c),.d (iD (mixP x y i).d)]])),(4,some (.arr 4 [[.d (iD y.a),.d (iD y.b),.d (iD y.c),.d (iD y.d)]]))],5⟩) (4) (fun _=>True) (trivial) ?_ qah ?_ ?_
 ·exact qf2
 ·intro i A_i h_i I_i N_i
  have e_i:iadd .i64 (i:Int) 1=((i+1:Nat):Int):=zah qbl
  have hi4:i=0\/i=1\/i=2\/i=3:=qad
  unfold Big P4.Bd at g1 g2
  rcases hi4 with rfl|rfl|rfl|rfl
  ·have cw:=zoa (G:=G) (a:=x.a) (b:=y.a) qad qad
   conv=>whnf
   repeat (refine LookP.mk _ rfl ?_;conv=>whnf)
   intro t ht
   cases t
   ·exact qbh
   conv=>whnf
   repeat' first|((first|refine LookP.mk _ rfl ?_|refine ShlP.mk _ qaa ?_|refine And.intro qbi ?_|refine zam cw ?_|refine HpP.force ?_);conv=>whnf)
   refine N_i _ ?_ ?_
   ·exact qbj
   ·exact qf3
  ·have cw:=zoa (G:=G) (a:=x.b) (b:=y.b) qad qad
   conv=>whnf
   repeat (refine LookP.mk _ rfl ?_;conv=>whnf)
   intro t ht
   cases t
   ·exact qbh
   conv=>whnf
   repeat' first|((first|refine LookP.mk _ rfl ?_|refine ShlP.mk _ qaa ?_|refine And.intro qbi ?_|refine zam cw ?_|refine HpP.force ?_);conv=>whnf)
   refine N_i _ ?_ ?_
   ·exact qbj
   ·exact qf3
  ·have cw:=zoa (G:=G) (a:=x.c) (b:=y.c) qad qad
   conv=>whnf
   repeat (refine LookP.mk _ rfl ?_;conv=>whnf)
   intro t ht
   cases t
   ·exact qbh
   conv=>whnf
   repeat' first|((first|refine LookP.mk _ rfl ?_|refine ShlP.mk _ qaa ?_|refine And.intro qbi ?_|refine zam cw ?_|refine HpP.force ?_);conv=>whnf)
   refine N_i _ ?_ ?_
   ·exact qbj
   ·exact qf3
  ·have cw:=zoa (G:=G) (a:=x.d) (b:=y.d) qad qad
   conv=>whnf
   repeat (refine LookP.mk _ rfl ?_;conv=>whnf)
   intro t ht
   cases t
   ·exact qbh
   conv=>whnf
   repeat' first|((first|refine LookP.mk _ rfl ?_|refine ShlP.mk _ qaa ?_|refine And.intro qbi ?_|refine zam cw ?_|refine HpP.force ?_);conv=>whnf)
   refine N_i _ ?_ ?_
   ·exact qbj
   ·exact qf3
 ·intro A_last I_last
  conv=>whnf
  repeat (refine LookP.mk _ rfl ?_;conv=>whnf)
  intro t ht
  cases t
  rotate_left
  ·exact qbh
  conv=>whnf
  repeat' first|((first|refine LookP.mk _ rfl ?_|refine ShlP.mk _ qaa ?_|refine zak c4 ?_|refine zak c5 ?_|refine zak c6 ?_|refine HpP.force ?_);conv=>whnf)
  exact fin rfl
theorem chk77:chkFn Tryz.f77=true:=qah
theorem norm77g{p:P4}{k:Nat}(hk:2*k<=60)(h1:P4.Bd 16384 p)(hc:P4.lsz k p.con=(p.con,k))(hb:P4.Bd 1073741824 (p.mul p.con)) :
  PC Pr G 77 [nD p k] (.tup [nD (P4.lsz (k+k) (p.mul p.con)).1 (P4.lsz (k+k) (p.mul p.con)).2,iD 0]):=by
 have c1:=conj74g (G:=G) (p:=p) (k:=k) qad (h1.mono qag)
 rw[hc]at c1
 have c2:=zq6 (G:=G) (p:=p) (q:=p.con) (k:=k) (j:=k) qad h1 (P4.con_bd h1) hb
 have z0:((0:Int) != 0)=false:=rfl
 refine zai pok Tryz.func77 chk77 ?_
 conv=>whnf
 repeat' first|((first|refine LookP.mk _ rfl ?_|refine ShlP.mk _ qaa ?_|refine zak c1 ?_|refine zak c2 ?_|refine knownB z0 ?_|refine HpP.force ?_);conv=>whnf)
 exact fin rfl
end Go.Tz
namespace Go.Tz
open Go Go.AL Go.Proofs Go.Ma
abbrev Cx:=Int×Int
def cadd(a b:Cx):Cx:=(a.1+b.1,a.2+b.2)
def csc(n:Int)(a:Cx):Cx:=(n*a.1,n*a.2)
def cip(a b:Cx):Cx:=(a.1*b.1+a.2*b.2,a.1*b.2-a.2*b.1)
def cn2(a:Cx):Int:=a.1*a.1+a.2*a.2
def trn(p:Nat)(a:Cx):Cx:=if p%4=0 then a else if p%4=1 then(-a.2,a.1) else if p%4=2 then(-a.1,-a.2) else(a.2,-a.1)
theorem zcy(p:Nat):p%4=0\/p%4=1\/p%4=2\/p%4=3:=qad
theorem zdd(p q:Nat)(a:Cx):trn p (trn q a)=trn (p+q) a:=by
 unfold trn
 rcases zcy p with h|h|h|h<;>rcases zcy q with g|g|g|g<;>(rw[Nat.add_mod,h,g];simp)
theorem zlf(p:Nat)(a:Cx):trn (p%4) a=trn p a:=by unfold trn;rw[Nat.mod_mod]
theorem zof(p:Nat)(a b:Cx):trn p (cadd a b)=cadd (trn p a) (trn p b):=by
 unfold trn cadd
 rcases zcy p with h|h|h|h<;>(rw[h];simp;try omega)
theorem zlg(p:Nat)(a b:Cx):cip (trn p a) (trn p b)=cip a b:=by
 unfold trn cip
 rcases zcy p with h|h|h|h<;>(rw[h];refine Prod.ext ?_ ?_<;>(simp;try grind))
theorem trn_0(p:Nat):trn p (0,0)=(0,0):=by
 unfold trn
 rcases zcy p with h|h|h|h<;>(rw[h];simp)
theorem cip_addr(a b c:Cx):cip a (cadd b c)=cadd (cip a b) (cip a c):=by
 unfold cip cadd;ext<;>grind
theorem cip_addl(a b c:Cx):cip (cadd a b) c=cadd (cip a c) (cip b c):=by
 unfold cip cadd;ext<;>grind
theorem cip_neg2(a b:Cx):cip a (trn 2 b)=trn 2 (cip a b):=by
 unfold trn cip;ext<;>simp<;>grind
theorem zc7{a:Cx}(h:a=trn 2 a):a=(0,0):=by
 obtain⟨x,y⟩:=a
 have h:(x,y)=(-x,-y):=h
 injection h with h1 h2
 refine Prod.ext ?_ ?_<;>(simp only;omega)
def sm:Nat->(Nat->Cx)->Cx
 | 0,f=>f 0
 | k+1,f=>cadd (sm k f) (sm k fun v=>f (v^^^2^k))
theorem zfl:∀(k:Nat) (f g:Nat->Cx),(∀ v,v<2^k->f v=g v)->sm k f=sm k g
 | 0,_,_,h=>h 0 qag
 | k+1,f,g,h=>by
  have hp:2^(k+1)=2^k+2^k:=qb1
  simp only[sm]
  rw[zfl k f g fun v hv=>h v qad,zfl k _ _ fun v hv=>h (v^^^2^k) (Nat.xor_lt_two_pow qad qad)]
theorem cadd_4(a b c d:Cx):cadd (cadd a b) (cadd c d)=cadd (cadd a c) (cadd b d):=by
 unfold cadd;ext<;>simp only<;>omega
theorem zms(a b:Cx):cadd a b=cadd b a:=by
 unfold cadd;ext<;>simp only<;>omega
theorem zie:∀(k:Nat) (f g:Nat->Cx),sm k (fun v=>cadd (f v) (g v))=cadd (sm k f) (sm k g)
 | 0,_,_=>rfl
 | k+1,f,g=>by
  simp only[sm]
  rw[zie k f g,zie k (fun v=>f (v^^^2^k)) fun v=>g (v^^^2^k),cadd_4]
theorem zqk(p:Nat):∀(k:Nat) (f:Nat->Cx),sm k (fun v=>trn p (f v))=trn p (sm k f)
 | 0,_=>rfl
 | k+1,f=>by
  simp only[sm]
  rw[zqk p k f,zqk p k fun v=>f (v^^^2^k),zof]
theorem cip_sc(n:Int)(a b:Cx):csc n (cadd a b)=cadd (csc n a) (csc n b):=by
 unfold csc cadd;ext<;>simp only<;>grind
theorem zhi:∀(k a:Nat) (f:Nat->Cx),a<2^k->sm k (fun v=>f (v^^^a))=sm k f
 | 0,a,f,h=>by
  have:a=0:=qad
  subst this;rfl
 | k+1,a,f,h=>by
  have hp:2^(k+1)=2^k+2^k:=qb1
  simp only[sm]
  by_cases hlt:a<2^k
  ·have e2:(fun v=>f (v^^^2^k^^^a))=fun v=>(fun u=>f (u^^^2^k)) (v^^^a):=by
    funext v
    show _=f (v^^^a^^^2^k)
    congr 1
    rw[Nat.xor_assoc,Nat.xor_comm (2^k),<- Nat.xor_assoc]
   rw[e2,zhi k a f hlt,zhi k a (fun u=>f (u^^^2^k)) hlt]
  ·have hb:a^^^2^k<2^k:=zjc h qad
   have e1:(fun v=>f (v^^^a))=fun v=>(fun u=>f (u^^^2^k)) (v^^^(a^^^2^k)):=by
    funext v
    show _=f (v^^^(a^^^2^k)^^^2^k)
    congr 1
    rw[Nat.xor_assoc,zau]
   have e2:(fun v=>f (v^^^2^k^^^a))=fun v=>f (v^^^(a^^^2^k)):=by
    funext v
    congr 1
    rw[Nat.xor_assoc,Nat.xor_comm (2^k)]
   rw[e1,e2,zhi k _ (fun u=>f (u^^^2^k)) hb,zhi k _ f hb,zms]
def inn(w:Nat)(v u:Nat->Cx):Cx:=sm w fun k=>cip (v k) (u k)
def actC(e:E)(u:Nat->Cx)(k:Nat):Cx:=trn (phE e (k^^^xv e.2)) (u (k^^^xv e.2))
theorem zhb(e f:E)(u:Nat->Cx):actC e (actC f u)=actC (emul e f) u:=by
 funext k
 have e1:xv (emul e f).2=xv e.2^^^xv f.2:=zcw _ _
 unfold actC
 rw[e1,zly,<- Nat.xor_assoc,zau,zdd,zlf,Nat.add_comm]
theorem zwx(e:E)(u:Nat->Cx)(k:Nat):actC (eneg e) u k=trn 2 (actC e u k):=by
 unfold actC
 rw[show(eneg e).2=e.2 from rfl,zdd,<- zlf (2+_)]
 conv=>rhs;rw[<- zlf]
 congr 1
 unfold phE eneg
 simp only
 omega
theorem zwy(e:E)(u v:Nat->Cx):actC e (fun k=>cadd (u k) (v k))=fun k=>cadd (actC e u k) (actC e v k):=by
 funext k;exact zof ..
variable{w:Nat}
theorem ztj{e:E}(h:xv e.2<2^w)(v u:Nat->Cx):inn w (actC e v) (actC e u)=inn w v u:=by
 unfold inn actC
 simp only[zlg]
 exact zhi w _ (fun k=>cip (v k) (u k)) h
def Fix(w:Nat)(e:E)(u:Nat->Cx):Prop:=∀ k,k<2^w->actC e u k=u k
theorem ziq{v v' u u':Nat->Cx}(h1:∀ k,k<2^w->v k=v' k)(h2:∀ k,k<2^w->u k=u' k):inn w v u=inn w v' u' :=
 zfl w _ _ fun k hk=>by rw[h1 k hk,h2 k hk]
theorem zja{e:E}(h:xv e.2<2^w){u u':Nat->Cx}(hu:∀ k,k<2^w->u k=u' k):∀ k,k<2^w->actC e u k=actC e u' k:=fun k hk=>by
 unfold actC
 rw[hu _ (Nat.xor_lt_two_pow hk h)]
theorem inn_addr(v a b:Nat->Cx):inn w v (fun k=>cadd (a k) (b k))=cadd (inn w v a) (inn w v b):=by
 unfold inn
 simp only[cip_addr]
 exact zie ..
theorem zvt(v a b:Nat->Cx):inn w (fun k=>cadd (a k) (b k)) v=cadd (inn w a v) (inn w b v):=by
 unfold inn
 simp only[cip_addl]
 exact zie ..
theorem zrc(hw:w<=12){v:Nat}(h:inV w v):xv v<2^w:=by
 refine Nat.lt_pow_two_of_testBit _ fun j hj=>?_
 unfold xv
 rw[show 4096=2^12 from rfl,Nat.testBit_mod_two_pow]
 by_cases h12:j<12
 ·rw[zeo (U w) (zp2 (.inl ⟨hj,h12⟩)) v h,Bool.and_false]
 ·rw[decide_eq_false h12,Bool.false_and]
theorem fix_mul{e f:E}(he:xv e.2<2^w){u:Nat->Cx}(h1:Fix w e u)(h2:Fix w f u):Fix w (emul e f) u:=fun k hk=>by
 rw[<- zhb,zja he h2 k hk,h1 k hk]
theorem fix_one(u:Nat->Cx):Fix w e1 u:=fun k _=>by
 unfold actC
 rw[phE_one,show xv e1.2=0 from rfl,Nat.xor_zero];rfl
theorem zh1{L:List E}(hx:∀ a,a∈L->xv a.2<2^w){u:Nat->Cx}(h:∀ a,a∈L->Fix w a u){g:E}(hg:Gen L g):Fix w g u:=by
 induction hg with
 | one=>exact fix_one u
 | mul a f ha _ ih=>exact fix_mul (hx a ha) (h a ha) ih
def prjC(p:E)(u:Nat->Cx)(k:Nat):Cx:=cadd (u k) (actC p u k)
theorem prj_fix{p g:E}(hp:xv p.2<2^w)(hg:xv g.2<2^w){u:Nat->Cx}(h:Fix w g u)(hc:ecom p g):Fix w g (prjC p u):=fun k hk=>by
 unfold prjC
 rw[zwy]
 simp only
 rw[h k hk,zhb,zcc (zba hc),<- zhb,zja hp h k hk]
theorem act_self{p:E}(hok:eok p)(u:Nat->Cx){k:Nat}(hk:k<2^w):actC p (actC p u) k=u k:=by
 rw[zhb,zcm hok]
 exact fix_one u k hk
theorem prj_own{p:E}(hok:eok p)(u:Nat->Cx):Fix w p (prjC p u):=fun k hk=>by
 unfold prjC
 rw[zwy]
 simp only
 rw[act_self hok u hk,zms]
theorem inn_anti{p g:E}(hp:xv p.2<2^w)(hg:xv g.2<2^w)(hpo:eok p)(hgo:eok g){u:Nat->Cx}(h:Fix w g u)(hc:¬ ecom p g):inn w u (actC p u)=(0,0)/\inn w (actC p u) u=(0,0):=by
 have hne:emul g p=eneg (emul p g):=by
  refine zc6 ?_ (by show g.2^^^p.2=p.2^^^g.2;exact Nat.xor_comm ..)
  unfold ecom at hc
  show(g.1+p.1+2*(bt g.2 p.2).toNat)%4=((p.1+g.1+2*(bt p.2 g.2).toNat)%4+2)%4
  revert hc
  cases bt g.2 p.2<;>cases bt p.2 g.2<;>simp<;>omega
 have hk:∀ k,k<2^w->actC g (actC p u) k=trn 2 (actC p u k):=fun k hk=>by
  rw[zhb,hne,zwx,<- zhb,zja hp h k hk]
 refine⟨zc7 ?_,zc7 ?_⟩
 ·conv=>lhs;rw[<- ztj hg u (actC p u)]
  rw[ziq h hk]
  unfold inn
  simp only[cip_neg2]
  exact zqk 2 w _
 ·conv=>lhs;rw[<- ztj hg (actC p u) u]
  rw[ziq hk h]
  unfold inn
  have:∀ a b:Cx,cip (trn 2 a) b=trn 2 (cip a b):=fun a b=>by
   unfold trn cip;ext<;>simp<;>grind
  simp only[this]
  exact zqk 2 w _
theorem inn_prj2{p g:E}(hp:xv p.2<2^w)(hg:xv g.2<2^w)(hpo:eok p)(hgo:eok g){u:Nat->Cx}(h:Fix w g u)(hc:¬ ecom p g):inn w (prjC p u) (prjC p u)=csc 2 (inn w u u):=by
 obtain⟨h1,h2⟩:=inn_anti hp hg hpo hgo h hc
 show inn w (fun k=>cadd (u k) (actC p u k)) (fun k=>cadd (u k) (actC p u k))=_
 rw[inn_addr,zvt,zvt,h1,h2,ztj hp]
 unfold cadd csc
 ext<;>simp only<;>omega
theorem ztw(a b:Int)(c:Cx):csc a (csc b c)=csc (a*b) c:=by
 unfold csc;ext<;>simp only<;>grind
end Go.Tz
namespace Go.Tz
open Go Go.AL Go.Proofs Go.Ma
variable{w lst m:Nat}{L S T:List E}{val:Nat->Option Nat}
def amC:Option Nat->Cx
 | none=>(0,0)
 | some p=>trn p (1,0)
def vecC(val:Nat->Option Nat)(k:Nat):Cx:=amC (val k)
theorem sm_cn:∀(k:Nat) (b:Nat->Bool),sm k (fun v=>if b v=true then(1,0) else(0,0))=(((cn k b:Nat):Int),0)
 | 0,b=>by
  show(if b 0=true then((1,0):Cx) else(0,0))=((((b 0).toNat:Nat):Int),0)
  cases b 0<;>rfl
 | k+1,b=>by
  show cadd (sm k fun v=>if b v=true then((1,0):Cx) else(0,0)) (sm k fun v=>if b (v^^^2^k)=true then((1,0):Cx) else(0,0))=(((cn k b+cn k fun v=>b (v^^^2^k):Nat):Int),0)
  rw[sm_cn k b,sm_cn k fun v=>b (v^^^2^k)]
  unfold cadd
  simp
theorem zza:∀(A B:List Nat) (v:Nat),(∀ b,b∈B->xv b=0)->spB (A++B) v=true->∃ a,spB A a=true/\xv a=xv v
 | [],B,v,hB,h=>⟨0,rfl,by
  have:∀(B:List Nat) (v:Nat),(∀ b,b∈B->xv b=0)->spB B v=true->xv v=0:=by
   intro B
   induction B with
   | nil=>intro v _ h;simp only[spB,beq_iff_eq]at h;rw[h];rfl
   | cons b B ih =>
    intro v hB h
    simp only[spB,Bool.or_eq_true]at h
    rcases h with h|h
    ·exact ih v (fun c hc=>hB c (List.mem_cons_of_mem _ hc)) h
    ·have:=ih _ (fun c hc=>hB c (List.mem_cons_of_mem _ hc)) h
     rw[zcw,hB b (List.mem_cons_self ..),Nat.xor_zero]at this
     exact this
  rw[this B v hB h];rfl⟩
 | a::A,B,v,hB,h=>by
  simp only[List.cons_append,spB,Bool.or_eq_true]at h
  rcases h with h|h
  ·obtain⟨x,h1,h2⟩:=zza A B v hB h
   exact⟨x,by simp only[spB,h1,Bool.true_or],h2⟩
  ·obtain⟨x,h1,h2⟩:=zza A B _ hB h
   refine⟨x^^^a,by simp only[spB,zau,h1,Bool.or_true],?_⟩
   rw[zcw,h2,zcw,zau]
theorem zy0(hw:w<=12)(hL:Sta w L)(h1:Sup L lst)(h2:lst<2^w){k:Nat}(hk:k<2^w)(hn:∀ g,Gen L g->lst^^^xv g.2≠k):¬ Sup L k:=fun hs=>by
 have hd:lst^^^k<2^w:=Nat.xor_lt_two_pow h2 hk
 have hdx:xv (lst^^^k)=lst^^^k:=Nat.mod_eq_of_lt (Nat.lt_of_lt_of_le hd (Nat.pow_le_pow_right (n:=2) qag hw))
 have hz:∀ j,j<12->xv (2^(12+j))=0:=fun j hj=>by
  unfold xv
  rw[Nat.pow_add]
  exact Nat.mul_mod_right ..
 have hns:spB (L.map (·.2)++(List.range w).map fun j=>2^(12+j)) (lst^^^k)=false:=by
  cases e:spB (L.map (·.2)++(List.range w).map fun j=>2^(12+j)) (lst^^^k) with
  | false=>rfl
  | true =>
   obtain⟨a,a1,a2⟩:=zza _ _ _ (fun b hb=>by
    obtain⟨j,hj,rfl⟩:=List.mem_map.1 hb
    exact hz j (by have:=List.mem_range.1 hj;omega)) e
   obtain⟨g,g1,g2⟩:=zfk _ _ a1
   refine absurd ?_ (hn g g1)
   rw[g2,a2,hdx,<- Nat.xor_assoc,Nat.xor_self,Nat.zero_xor]
 have hdV:inV w (lst^^^k):=zky _ fun j hj=>Nat.testBit_lt_two_pow (Nat.lt_of_lt_of_le hd (Nat.pow_le_pow_right qag qad))
 obtain⟨v,v1,v2,v3⟩:=apart hw _ (fun a ha=>by
  rcases List.mem_append.1 ha with e|e
  ·obtain⟨q,hq,rfl⟩:=List.mem_map.1 e;exact hL.inv q hq
  ·obtain⟨j,hj,rfl⟩:=List.mem_map.1 e
   have hj:=List.mem_range.1 hj
   have:=dual_in (c:=j) hw (.inl hj)
   unfold dual at this
   rwa [if_pos qad]at this) _ hdV hns
 have hvx:xv v=0:=by
  refine Nat.eq_of_testBit_eq fun j=>?_
  unfold xv
  rw[show 4096=2^12 from rfl,Nat.testBit_mod_two_pow,Nat.zero_testBit]
  by_cases h12:j<12
  ·rw[decide_eq_true h12,Bool.true_and]
   by_cases hj:j<w
   ·have:=v2 (2^(12+j)) (List.mem_append.2 (.inr (List.mem_map.2 ⟨j,List.mem_range.2 hj,rfl⟩)))
    rw[zt0]at this
    have hd2:=zt2 (c:=j) qad v
    unfold dual at hd2
    rw[if_pos h12,this]at hd2
    exact hd2.symm
   ·exact zeo (U w) (zp2 (.inl ⟨by omega,h12⟩)) v v1
  ·rw[decide_eq_false h12,Bool.false_and]
 obtain⟨g,g1,g2⟩:=zfk L v (zy7 (p:=(0,v)) hw hL v1 fun q hq=>by
  rw[cm_ecom,zt0]
  exact v2 q.2 (List.mem_append.2 (.inl (List.mem_map.2 ⟨q,hq,rfl⟩))))
 subst g2
 have e1:=h1 g g1 hvx
 have e2:=hs g g1 hvx
 have hb:bt g.2 (lst^^^k)=false:=by
  rw[zbp]
  unfold phE at e1 e2
  cases q1:bt g.2 lst<;>cases q2:bt g.2 k<;>rw[q1]at e1<;>rw[q2]at e2<;>simp at e1 e2⊢<;>omega
 have hb2:bt (lst^^^k) g.2=false:=by
  unfold bt
  rw[Nat.shiftRight_eq_div_pow,Nat.div_eq_of_lt (Nat.lt_of_lt_of_le hd (Nat.pow_le_pow_right qag hw)),Nat.zero_and,zfb]
 unfold cm at v3
 rw[hb,hb2]at v3
 cases v3
theorem fix_vec(hw:w<=12)(hL:Sta w L)(ha:Amp L w lst m val){u:Nat->Cx}(hu:∀ g,Gen L g->Fix w g u):∀ k,k<2^w->u k=match val k with|none=>(0,0)|some p=>trn p (u lst):=fun k hk=>by
 cases e:val k with
 | some p =>
  obtain⟨g,g1,g2,g3⟩:=ha.has k p hk e
  have:=hu g g1 k hk
  unfold actC at this
  rw[<- g2,zau,g3]at this
  rw[<- g2];exact this.symm
 | none =>
  have hs:=zy0 hw hL ha.sup ha.lt hk (ha.no k hk e)
  have:∃ g,Gen L g/\xv g.2=0/\phE g k≠0:=Classical.byContradiction fun hn=>hs fun g hg hx=>Classical.byContradiction fun h0=>hn ⟨g,hg,hx,h0⟩
  obtain⟨g,g1,g2,g3⟩:=this
  have hok:=zcl hL.good g1
  have h2:phE g k=2:=by
   have hb:bt g.2 g.2=false:=by rw[<- bt_xv,g2,zru]
   have:=hok.2
   rw[hb]at this
   unfold phE at g3⊢
   revert g3
   cases bt g.2 k<;>simp at this⊢<;>omega
  have:=hu g g1 k hk
  unfold actC at this
  rw[g2,Nat.xor_zero,h2]at this
  exact zc7 this.symm
theorem cip_turn(p:Nat)(c:Cx):cip (trn p (1,0)) (trn p c)=c:=by
 rw[zlg];unfold cip;simp
theorem cip_cn2(c:Cx):cip c c=(cn2 c,0):=by
 unfold cip cn2;ext<;>simp only<;>grind
theorem zss(n:Int):∀(k:Nat) (f:Nat->Cx),sm k (fun v=>csc n (f v))=csc n (sm k f)
 | 0,_=>rfl
 | k+1,f=>by
  simp only[sm]
  rw[zss n k f,zss n k fun v=>f (v^^^2^k),cip_sc]
theorem zx1(c:Cx)(b:Bool):(if b=true then c else(0,0))=cadd (csc c.1 (if b=true then(1,0) else(0,0))) (trn 1 (csc c.2 (if b=true then(1,0) else(0,0)))):=by
 cases b<;>(unfold cadd csc trn;simp)
theorem fix_inn(hw:w<=12)(hL:Sta w L)(ha:Amp L w lst m val)(hx:∀ g,Gen L g->xv g.2<2^w){u:Nat->Cx}(hu:∀ g,Gen L g->Fix w g u) :
  inn w (vecC val) u=csc ((2^m:Nat):Int) (u lst)/\inn w u u=(((2^m:Nat):Int)*cn2 (u lst),0):=by
 have hv:=fix_vec hw hL ha hu
 have hc:=zr1 ha hx
 rw[zk3]at hc
 generalize u lst=c at hv⊢
 have hs:∀ c:Cx,sm w (fun k=>if(val k).isSome=true then c else(0,0))=csc ((2^m:Nat):Int) c:=fun c=>by
  have e:(fun k=>if(val k).isSome=true then c else(0,0))=fun k=>cadd (csc c.1 (if(val k).isSome=true then(1,0) else(0,0))) (trn 1 (csc c.2 (if(val k).isSome=true then(1,0) else(0,0)))):=funext fun k=>zx1 c _
  rw[e,zie,zqk,zss,zss,sm_cn,hc]
  unfold cadd csc trn
  ext<;>simp<;>grind
 constructor
 ·rw[<- hs c]
  refine zfl w _ _ fun k hk=>?_
  rw[hv k hk]
  unfold vecC
  cases val k with
  | none=>rfl
  | some p=>exact cip_turn p c
 ·have:=hs (cn2 c,0)
  have e:csc ((2^m:Nat):Int) (cn2 c,0)=(((2^m:Nat):Int)*cn2 c,0):=by unfold csc;simp
  rw[<- e,<- this]
  refine zfl w _ _ fun k hk=>?_
  rw[hv k hk]
  cases val k with
  | none=>rfl
  | some p =>
   show cip (trn p c) (trn p c)=(cn2 c,0)
   rw[zlg,cip_cn2]
end Go.Tz
namespace Go.Tz
open Go Go.AL Go.Proofs Go.Ma
variable{G:Nat->Option (List D)}
namespace P4
theorem zts(p:P4):p.twc.evn/\p.twc.hlf=p:=by
 obtain⟨a,b,c,d⟩:=p
 simp only[evn,twc,hlf,mk.injEq]
 omega
theorem twc_nz{p:P4}(h:p≠z):p.twc≠z:=fun e=>by
 have:=(zts p).2
 rw[e]at this
 exact h this.symm
theorem lsz_twc(k:Nat)(p:P4):lsz (k+1) p.twc=lsz k p:=by
 by_cases h:p=z
 ·rw[h];rfl
 ·rw[lsz,if_neg (twc_nz h),lsz,if_neg h]
  show(if p.twc.evn then lst k p.twc.hlf else _)=_
  rw[if_pos (zts p).1,(zts p).2]
theorem lsz_rse(k:Nat):∀(d:Nat) (p:P4),lsz (k+d) (rse d p)=lsz k p
 | 0,_=>rfl
 | d+1,p=>by
  show lsz (k+d+1) (rse d p.twc)=_
  rw[rse_twc,lsz_twc]
  exact lsz_rse k d p
theorem rse_add:∀(d:Nat) (p q:P4),rse d (p.add q)=(rse d p).add (rse d q)
 | 0,_,_=>rfl
 | d+1,p,q=>by
  have e:(p.add q).twc=p.twc.add q.twc:=by
   simp only[twc,add,mk.injEq]
   omega
  show rse d (p.add q).twc=_
  rw[e];exact rse_add d _ _
theorem zsv:∀(a b:Nat) (p:P4),rse a (rse b p)=rse (b+a) p
 | a,0,p=>by rw[Nat.zero_add];rfl
 | a,b+1,p=>by
  show rse a (rse b p.twc)=_
  rw[zsv a b,show b+1+a=(b+a)+1 by omega];rfl
theorem lsz_sum{K k:Nat}{A B:P4}(hk:k=max (lsz K A).2 (lsz K B).2):k<=K/\lsz k ((rse (k-(lsz K A).2) (lsz K A).1).add (rse (k-(lsz K B).2) (lsz K B).1))=lsz K (A.add B):=by
 obtain⟨a1,a2⟩:=rse_lsz K A
 obtain⟨b1,b2⟩:=rse_lsz K B
 have hkK:k<=K:=qad
 refine⟨hkK,?_⟩
 have e1:A=rse (K-k) (rse (k-(lsz K A).2) (lsz K A).1):=by
  rw[zsv]
  conv=>lhs;rw[<- a2]
  congr 1;omega
 have e2:B=rse (K-k) (rse (k-(lsz K B).2) (lsz K B).1):=by
  rw[zsv]
  conv=>lhs;rw[<- b2]
  congr 1;omega
 generalize rse (k-(lsz K A).2) (lsz K A).1=X at e1⊢
 generalize rse (k-(lsz K B).2) (lsz K B).1=Y at e2⊢
 rw[e1,e2,<- rse_add]
 have:=lsz_rse k (K-k) (X.add Y)
 rw[show k+(K-k)=K by omega]at this
 exact this.symm
end P4
def emb(c:Cx):P4:=⟨c.1,0,c.2,0⟩
def sq:Nat->(Nat->Cx)->Cx
 | 0,_=>(0,0)
 | j+1,f=>cadd (sq j f) (f j)
theorem cadd_0(a:Cx):cadd (0,0) a=a:=qf0
theorem cadd_r(a:Cx):cadd a (0,0)=a:=qf0
theorem zx6(a b c:Cx):cadd (cadd a b) c=cadd a (cadd b c):=by unfold cadd;refine Prod.ext ?_ ?_<;>(simp only;omega)
theorem zuo{f g:Nat->Cx}:∀ n:Nat,(∀ k,k<n->f k=g k)->sq n f=sq n g
 | 0,_=>rfl
 | n+1,h=>by
  show cadd (sq n f) (f n)=cadd (sq n g) (g n)
  rw[zuo n fun k hk=>h k qad,h n qad]
theorem zy9(n:Nat)(f:Nat->Cx):∀ m:Nat,sq (n+m) f=cadd (sq n f) (sq m fun v=>f (n+v))
 | 0=>(cadd_r _).symm
 | m+1=>by
  show cadd (sq (n+m) f) (f (n+m))=cadd (sq n f) (cadd (sq m fun v=>f (n+v)) (f (n+m)))
  rw[zy9 n f m,zx6]
theorem xor_top{k v:Nat}(hv:v<2^k):v^^^2^k=2^k+v:=by
 refine Nat.eq_of_testBit_eq fun j=>?_
 have:=Nat.testBit_two_pow_mul_add 1 hv j
 rw[Nat.mul_one]at this
 rw[this,Nat.testBit_xor,Nat.testBit_two_pow]
 by_cases hj:j<k
 ·rw[if_pos hj,decide_eq_false qad,Bool.xor_false]
 ·rw[if_neg hj,Nat.testBit_lt_two_pow (Nat.lt_of_lt_of_le hv (Nat.pow_le_pow_right qag qad)),Bool.false_xor]
  by_cases e:k=j
  ·subst e;simp
  ·rw[decide_eq_false e]
   exact(Nat.testBit_lt_two_pow (Nat.lt_of_lt_of_le (by decide:1<2^1) (Nat.pow_le_pow_right qag qad))).symm
theorem sq_sm:∀(w:Nat) (f:Nat->Cx),sq (2^w) f=sm w f
 | 0,f=>cadd_0 _
 | w+1,f=>by
  have hp:2^(w+1)=2^w+2^w:=qb1
  rw[hp,zy9,sq_sm w f]
  show _=cadd (sm w f) (sm w fun v=>f (v^^^2^w))
  rw[<- sq_sm w fun v=>f (v^^^2^w)]
  congr 1
  exact zuo _ fun v hv=>by rw[xor_top hv]
theorem emb_gau(c:Cx):P4.Gau (emb c):=.inl ⟨rfl,rfl⟩
theorem zpi(c:Cx):P4.nrm (emb c)=cn2 c:=by
 unfold P4.nrm emb cn2
 simp
theorem emb_add(a b:Cx):(emb a).add (emb b)=emb (cadd a b):=rfl
def ek:Option Nat->Nat->Nat
 | none,_=>0
 | some _,m=>m
variable{v v':Option Nat}{m m':Nat}
theorem am_nD(hv:∀ p,v=some p->p<4):amD v m=nD (emb (amC v)) (ek v m):=by
 cases v with
 | none=>rfl
 | some p =>
  have:=hv p rfl
  have:p=0\/p=1\/p=2\/p=3:=qad
  rcases this with rfl|rfl|rfl|rfl<;>rfl
theorem trn_1(p:Nat):trn p (1,0)=(1,0)\/trn p (1,0)=(0,1)\/trn p (1,0)=(-1,0)\/trn p (1,0)=(0,-1):=by
 unfold trn
 rcases zcy p with h|h|h|h<;>(rw[h];simp)
instance (n:Int) (p:P4):Decidable (P4.Bd n p):=inferInstanceAs (Decidable (_/\_))
theorem am_bd(v:Option Nat):P4.Bd 1 (emb (amC v)):=by
 cases v with
 | none=>decide
 | some p =>
  show P4.Bd 1 (emb (trn p (1,0)))
  rcases trn_1 p with h|h|h|h<;>(rw[h];decide)
theorem bd_big{p:P4}{n:Int}{j:Nat}(h:P4.Bd n p)(hj:j<=20)(h0:0<=n)(hn:n<=1000):Big (P4.rse j p):=by
 refine(P4.rse_bd j h).mono ?_
 have h1:(2:Int)^j<=2^20:=by
  have:=Nat.pow_le_pow_right (n:=2) qag hj
  have e:((2^j:Nat):Int)=2^j:=by push_cast;rfl
  have e2:((2^20:Nat):Int)=2^(20:Nat):=qe5
  omega
 have:=Int.mul_le_mul h1 hn h0 qag
 omega
end Go.Tz
namespace Go.Tz
open Go Go.AL Go.Proofs Go.Ma
variable{w a b:Nat}
def gC(k a b:Nat)(u:Nat->Cx)(r:Nat):Cx:=match k with
 | 1=>u (r^^^2^a)
 | 2=>trn (if r.testBit a then 1 else 3) (u (r^^^2^a))
 | 3=>trn (2*(r.testBit a).toNat) (u r)
 | 4=>if r.testBit a then cadd (u (r^^^2^a)) (trn 2 (u r)) else cadd (u r) (u (r^^^2^a))
 | 5=>trn (r.testBit a).toNat (u r)
 | 6=>trn (3*(r.testBit a).toNat) (u r)
 | 9=>u (r^^^cd (r.testBit a) (2^b))
 | 10=>trn (2*(r.testBit a&&r.testBit b).toNat) (u r)
 | 11=>u (r^^^cd (r.testBit a != r.testBit b) (2^a^^^2^b))
 | _=>u r
theorem zhh{p q:Nat}(h:p%4=q%4)(c:Cx):trn p c=trn q c:=by rw[<- zlf p,h,zlf]
theorem xv_lo(ha:a<12)(t:Bool):xv (cd t (2^a))=cd t (2^a):=by
 cases t
 ·rfl
 ·exact Nat.mod_eq_of_lt (Nat.pow_lt_pow_right qag ha)
theorem zr7(a:Nat)(t:Bool):xv (cd t (2^(12+a)))=0:=by
 cases t
 ·rfl
 ·show 2^(12+a)%4096=0
  rw[Nat.pow_add]
  exact Nat.mul_mod_right ..
theorem zyc(ha:a<12)(v:Nat):(xv v).testBit a=v.testBit a:=by
 unfold xv
 rw[show 4096=2^12 from rfl,Nat.testBit_mod_two_pow,decide_eq_true ha,Bool.true_and]
theorem zoq(a b:Nat):(2^a).testBit b=decide (a=b):=Nat.testBit_two_pow
theorem zju(t:Bool)(m n:Nat):cd t (m^^^n)=cd t m^^^cd t n:=by cases t<;>simp[cd]
theorem xor_a(r x a:Nat):r^^^2^a^^^x=r^^^x^^^2^a:=by rw[Nat.xor_assoc,Nat.xor_comm (2^a),<- Nat.xor_assoc]
theorem gC_act{k:Nat}(h:gOk k a b)(e:E)(u:Nat->Cx)(r:Nat):actC (gE k a b e) (gC k a b u) r=gC k a b (actC e u) r:=by
 obtain⟨s,v⟩:=e
 rcases h with⟨h1,h2,ha⟩|⟨h1,h2,ha,hb,hab⟩
 ·have hk:k=1\/k=2\/k=3\/k=4\/k=5\/k=6:=by omega
  have hxa:=zyc ha v
  rcases hk with rfl|rfl|rfl|rfl|rfl|rfl
  ·simp only[actC,gC,gE,gL,gQ,phE]
   rw[xor_a]
   generalize r^^^xv v=m
   refine zhh ?_ _
   rw[zbp,zdx ha]
   cases bt v m<;>cases v.testBit (12+a)<;>simp<;>omega
  ·simp only[actC,gC,gE,gL,gQ,phE]
   rw[xor_a,zdd,zdd]
   have hr:r.testBit a=((r^^^xv v).testBit a != v.testBit a):=qa9
   rw[hr]
   generalize r^^^xv v=m
   refine zhh ?_ _
   rw[zbp,zdx ha]
   cases bt v m<;>cases v.testBit (12+a)<;>cases m.testBit a<;>cases v.testBit a<;>simp<;>omega
  ·simp only[actC,gC,gE,gL,gQ,phE]
   rw[zdd,zdd]
   have hr:r.testBit a=((r^^^xv v).testBit a != v.testBit a):=qa9
   rw[hr]
   generalize r^^^xv v=m
   refine zhh ?_ _
   cases bt v m<;>cases m.testBit a<;>cases v.testBit a<;>simp<;>omega
  ·have hx:xv (v^^^cd (v.testBit a != v.testBit (12+a)) (2^a^^^2^(12+a)))=xv v^^^cd (v.testBit a != v.testBit (12+a)) (2^a):=by
    rw[zcw,zju,zcw,xv_lo ha,zr7,Nat.xor_zero]
   have hB:∀ m,bt (v^^^cd (v.testBit a != v.testBit (12+a)) (2^a^^^2^(12+a))) m=(bt v m != ((v.testBit a != v.testBit (12+a))&&m.testBit a)):=fun m=>by
    rw[zbq,zew,zbq,zhe ha,zft ha,Bool.false_bne]
   simp only[actC,gC,gE,gL,gQ,phE]
   rw[hx]
   simp only[hB,xor_a]
   obtain⟨m,hm⟩:∃ m,m=r^^^(xv v^^^cd (v.testBit a != v.testBit (12+a)) (2^a)):=⟨_,rfl⟩
   have hrx:r^^^xv v=m^^^cd (v.testBit a != v.testBit (12+a)) (2^a):=by
    rw[hm,<- Nat.xor_assoc,zau]
   have hra:r.testBit a=(m.testBit a != v.testBit (12+a)):=by
    rw[hm,Nat.testBit_xor,Nat.testBit_xor,hxa,zhd,Nat.testBit_two_pow_self]
    cases r.testBit a<;>cases v.testBit a<;>cases v.testBit (12+a)<;>rfl
   rw[<- hm,hrx,hra]
   have hBa:∀ m,bt v (m^^^2^a)=(bt v m != v.testBit (12+a)):=fun m=>by rw[zbp,zdx ha]
   cases hva:v.testBit a<;>cases hvz:v.testBit (12+a)<;>simp only[cd,hBa,hvz,Nat.xor_zero,zau,bne_self_eq_false,Bool.bne_false,Bool.false_bne,Bool.bne_true,Bool.true_bne,Bool.false_and,Bool.true_and,Bool.and_false,Bool.not_false,Bool.not_true,Bool.and_true]<;>
    cases m.testBit a<;>cases bt v m<;>simp only[bne_self_eq_false,Bool.bne_false,Bool.false_bne,Bool.bne_true,Bool.true_bne,Bool.not_true,Bool.not_false,Bool.toNat_true,Bool.toNat_false,if_true,if_false,Bool.false_eq_true,zof,zdd]<;>
    first
    | (congr 1<;>(refine zhh ?_ _;omega))
    | (rw[zms];congr 1<;>(refine zhh ?_ _;omega))
  ·exact qgf
  ·exact qgf
 ·have hk:k=9\/k=10\/k=11:=by omega
  have hxa:=zyc ha v
  have hxb:=zyc hb v
  have hra:r.testBit a=((r^^^xv v).testBit a != v.testBit a):=qa9
  have hrb:r.testBit b=((r^^^xv v).testBit b != v.testBit b):=by rw[Nat.testBit_xor,hxb];cases r.testBit b<;>cases v.testBit b<;>rfl
  have dab:decide (a=b)=false:=decide_eq_false hab
  have dba:decide (b=a)=false:=decide_eq_false (Ne.symm hab)
  rcases hk with rfl|rfl|rfl
  ·have hx:xv (v^^^(cd (v.testBit a) (2^b)^^^cd (v.testBit (12+b)) (2^(12+a))))=xv v^^^cd (v.testBit a) (2^b):=by
    rw[zcw,zcw,xv_lo hb,zr7,Nat.xor_zero]
   have hB:∀ m,bt (v^^^(cd (v.testBit a) (2^b)^^^cd (v.testBit (12+b)) (2^(12+a)))) m=(bt v m != (v.testBit (12+b)&&m.testBit a)):=fun m=>by
    rw[zbq,zbq,zew,zew,zhe hb,zft ha,Bool.and_false,Bool.false_bne]
   simp only[actC,gC,gE,gL,gQ,phE,hB]
   rw[hx]
   have e1:(r^^^(xv v^^^cd (v.testBit a) (2^b))).testBit a=(r^^^xv v).testBit a:=by
    rw[<- Nat.xor_assoc,Nat.testBit_xor,zhd,zoq,dba,Bool.and_false,Bool.xor_false]
   have e2:r^^^cd (r.testBit a) (2^b)^^^xv v=r^^^(xv v^^^cd (v.testBit a) (2^b))^^^cd ((r^^^xv v).testBit a) (2^b):=by
    rw[hra,zgi,Nat.xor_assoc r,Nat.xor_comm _ (xv v),Nat.xor_assoc r,Nat.xor_assoc (xv v),Nat.xor_comm (cd (v.testBit a) _)]
   rw[e1,e2]
   refine zhh ?_ _
   generalize r^^^(xv v^^^cd (v.testBit a) (2^b))=m
   rw[zbp,zgj,zdx hb]
   generalize bt v m=B
   generalize (r^^^xv v).testBit a=x
   cases B<;>cases x<;>cases v.testBit (12+b)<;>simp
  ·have hx:xv (v^^^(cd (v.testBit a) (2^(12+b))^^^cd (v.testBit b) (2^(12+a))))=xv v:=by
    rw[zcw,zcw,zr7,zr7,Nat.xor_zero,Nat.xor_zero]
   simp only[actC,gC,gE,gL,gQ,phE]
   rw[hx,zdd,zdd,hra,hrb]
   generalize r^^^xv v=m
   refine zhh ?_ _
   rw[zbq,zbq,zew,zew,zft hb,zft ha]
   cases bt v m<;>cases m.testBit a<;>cases v.testBit a<;>cases m.testBit b<;>cases v.testBit b<;>simp<;>omega
  ·have hT:∀ t t':Bool,v^^^(cd t (2^a^^^2^b)^^^cd t' (2^(12+a)^^^2^(12+b)))=v^^^(cd t (2^a)^^^cd t (2^b)^^^(cd t' (2^(12+a))^^^cd t' (2^(12+b)))):=fun t t'=>by rw[zju,zju]
   have hx:xv (v^^^(cd (v.testBit a != v.testBit b) (2^a^^^2^b)^^^cd (v.testBit (12+a) != v.testBit (12+b)) (2^(12+a)^^^2^(12+b))))=xv v^^^cd (v.testBit a != v.testBit b) (2^a^^^2^b):=by
    rw[hT]
    simp only[zcw,xv_lo ha,xv_lo hb,zr7,Nat.xor_zero,zju]
   have hB:∀ m,bt (v^^^(cd (v.testBit a != v.testBit b) (2^a^^^2^b)^^^cd (v.testBit (12+a) != v.testBit (12+b)) (2^(12+a)^^^2^(12+b)))) m=(bt v m != ((v.testBit (12+a) != v.testBit (12+b))&&(m.testBit a != m.testBit b))):=fun m=>by
    rw[hT]
    simp only[zbq,zew,zhe ha,zhe hb,zft ha,zft hb,Bool.and_false,Bool.false_bne]
    cases bt v m<;>cases v.testBit (12+a)<;>cases v.testBit (12+b)<;>cases m.testBit a<;>cases m.testBit b<;>rfl
   simp only[actC,gC,gE,gL,gQ,phE,hB]
   rw[hx]
   have e0:((r^^^(xv v^^^cd (v.testBit a != v.testBit b) (2^a^^^2^b))).testBit a != (r^^^(xv v^^^cd (v.testBit a != v.testBit b) (2^a^^^2^b))).testBit b)=((r^^^xv v).testBit a != (r^^^xv v).testBit b):=by
    simp only[Nat.testBit_xor,zju,zhd,zoq,decide_true,dab,dba]
    cases r.testBit a<;>cases r.testBit b<;>cases (xv v).testBit a<;>cases (xv v).testBit b<;>cases v.testBit a<;>cases v.testBit b<;>rfl
   have ez:(r.testBit a != r.testBit b)=(((r^^^xv v).testBit a != (r^^^xv v).testBit b) != (v.testBit a != v.testBit b)):=by
    rw[hra,hrb]
    cases (r^^^xv v).testBit a<;>cases (r^^^xv v).testBit b<;>cases v.testBit a<;>cases v.testBit b<;>rfl
   have e2:r^^^cd (r.testBit a != r.testBit b) (2^a^^^2^b)^^^xv v=r^^^(xv v^^^cd (v.testBit a != v.testBit b) (2^a^^^2^b))^^^cd ((r^^^xv v).testBit a != (r^^^xv v).testBit b) (2^a^^^2^b):=by
    rw[ez,zgi,Nat.xor_assoc r,Nat.xor_comm _ (xv v),Nat.xor_assoc r,Nat.xor_assoc (xv v),Nat.xor_comm (cd (v.testBit a != _) _)]
   rw[e0,e2]
   refine zhh ?_ _
   generalize r^^^(xv v^^^cd (v.testBit a != v.testBit b) (2^a^^^2^b))=m
   rw[zbp v m,zju,zbp,zgj,zgj,zdx ha,zdx hb]
   generalize bt v m=B
   generalize (r^^^xv v).testBit a=x
   generalize (r^^^xv v).testBit b=y
   cases B<;>cases x<;>cases y<;>cases v.testBit (12+a)<;>cases v.testBit (12+b)<;>simp
end Go.Tz
namespace Go.Tz
open Go Go.AL Go.Proofs Go.Ma
variable{w a b n o:Nat}
theorem sm_cd(k x:Nat)(hx:x<2^k)(c:Nat->Bool)(hc:∀ r,c (r^^^x)=c r)(f:Nat->Cx):sm k (fun r=>f (r^^^cd (c r) x))=sm k f:=by
 have e1:(fun r=>f (r^^^cd (c r) x))=fun r=>cadd (if c r=true then(0,0) else f r) ((fun r=>if c r=true then f r else(0,0)) (r^^^x)):=by
  funext r
  dsimp only
  rw[hc r]
  cases c r
  ·simp[cd,cadd]
  ·simp[cd,cadd]
 have e2:f=fun r=>cadd (if c r=true then(0,0) else f r) (if c r=true then f r else(0,0)):=by
  funext r
  cases c r<;>simp[cadd]
 rw[e1,zie,zhi k x (fun r=>if c r=true then f r else(0,0)) hx]
 conv=>rhs;rw[e2]
 rw[zie]
theorem gC_inn{k:Nat}(h:gOk k a b)(ha:a<w)(hb:9<=k->b<w)(u:Nat->Cx):inn w (gC k a b u) (gC k a b u)=csc (if k=4 then 2 else 1) (inn w u u):=by
 have hA:2^a<2^w:=Nat.pow_lt_pow_right qag ha
 have one:∀ c:Cx,csc 1 c=c:=fun c=>by unfold csc;refine Prod.ext ?_ ?_<;>simp
 unfold inn
 rcases h with⟨h1,h2,_⟩|⟨h1,h2,_,_,hab⟩
 ·have hk:k=1\/k=2\/k=3\/k=4\/k=5\/k=6:=by omega
  rcases hk with rfl|rfl|rfl|rfl|rfl|rfl<;>simp only[gC,zlg,Nat.reduceEqDiff,if_false,if_true,one]
  ·exact zhi w _ (fun r=>cip (u r) (u r)) hA
  ·exact zhi w _ (fun r=>cip (u r) (u r)) hA
  ·have key:∀ F:Nat->Cx,(∀ r,cadd (F r) (F (r^^^2^a))=csc 2 (cadd (cip (u r) (u r)) (cip (u (r^^^2^a)) (u (r^^^2^a)))))->sm w F=csc 2 (sm w fun r=>cip (u r) (u r)):=fun F hF=>by
    have h1:=zie w F fun r=>F (r^^^2^a)
    rw[zhi w _ F hA]at h1
    have h2:(fun r=>cadd (F r) (F (r^^^2^a)))=fun r=>csc 2 (cadd (cip (u r) (u r)) ((fun r=>cip (u r) (u r)) (r^^^2^a))):=funext hF
    rw[h2,zss,zie,zhi w _ (fun r=>cip (u r) (u r)) hA]at h1
    generalize sm w F=x at h1⊢
    generalize (sm w fun r=>cip (u r) (u r))=y at h1⊢
    unfold csc cadd at *
    injection h1 with h3 h4
    refine Prod.ext ?_ ?_<;>(simp only;omega)
   refine key _ fun r=>?_
   have hr:(r^^^2^a).testBit a = !r.testBit a:=by rw[Nat.testBit_xor,Nat.testBit_two_pow_self];simp
   rw[hr,zau]
   generalize u r=x
   generalize u (r^^^2^a)=y
   cases r.testBit a<;>(simp[cip,cadd,csc,trn];grind)
 ·have hk:k=9\/k=10\/k=11:=by omega
  have hB:2^b<2^w:=Nat.pow_lt_pow_right qag (hb h1)
  have dab:decide (a=b)=false:=decide_eq_false hab
  have dba:decide (b=a)=false:=decide_eq_false (Ne.symm hab)
  rcases hk with rfl|rfl|rfl<;>simp only[gC,zlg,Nat.reduceEqDiff,if_false,one]
  ·exact sm_cd w _ hB (fun r=>r.testBit a) (fun r=>by rw[Nat.testBit_xor,zoq,dba,Bool.xor_false]) fun r=>cip (u r) (u r)
  ·exact sm_cd w _ (Nat.xor_lt_two_pow hA hB) (fun r=>r.testBit a != r.testBit b) (fun r=>by
    simp only[Nat.testBit_xor,zoq,dab,dba,decide_true]
    cases r.testBit a<;>cases r.testBit b<;>rfl) fun r=>cip (u r) (u r)
def mkC(n o:Nat)(u:Nat->Cx)(r:Nat):Cx:=if r.testBit n=decide (o=1) then u r else(0,0)
theorem z_act(hn:n<12)(ho:o<=1)(u:Nat->Cx)(r:Nat):actC (nf (zP w n o)) u r=if r.testBit n=decide (o=1) then u r else trn 2 (u r):=by
 unfold actC
 rw[nf_z]
 have hx:xv (4096*2^n)=0:=Nat.mul_mod_right ..
 rw[show((2*o)%4,4096*2^n).2=4096*2^n from rfl,hx,Nat.xor_zero]
 have hp:phE ((2*o)%4,4096*2^n) r=(2*o%4+2*(r.testBit n).toNat)%4:=by
  unfold phE
  rw[show 4096*2^n=2^(12+n) by rw[Nat.pow_add],zft hn]
 rw[hp]
 have:o=0\/o=1:=qad
 rcases this with rfl|rfl<;>cases r.testBit n<;>rfl
theorem prj_mk(hn:n<12)(ho:o<=1)(u:Nat->Cx):prjC (nf (zP w n o)) u=fun r=>csc 2 (mkC n o u r):=by
 funext r
 unfold prjC mkC
 rw[z_act hn ho]
 split
 ·unfold cadd csc;refine Prod.ext ?_ ?_<;>(simp only;omega)
 ·unfold cadd csc trn;refine Prod.ext ?_ ?_<;>(simp;try omega)
theorem act_sc(e:E)(m:Int)(u:Nat->Cx)(r:Nat):actC e (fun r=>csc m (u r)) r=csc m (actC e u r):=by
 unfold actC trn csc
 rcases zcy (phE e (r^^^xv e.2)) with h|h|h|h<;>simp[h,Int.mul_neg]
theorem zwh{x y:Cx}(h:csc 2 x=csc 2 y):x=y:=by
 unfold csc at h
 injection h with h1 h2
 refine Prod.ext ?_ ?_<;>omega
theorem mk_fix(hn:n<12)(ho:o<=1){e:E}{u:Nat->Cx}(h:Fix w e (prjC (nf (zP w n o)) u)):Fix w e (mkC n o u):=fun r hr=>by
 have:=h r hr
 rw[prj_mk hn ho,act_sc]at this
 exact zwh this
theorem mk_inn(hn:n<12)(ho:o<=1){u:Nat->Cx}(h:inn w (prjC (nf (zP w n o)) u) (prjC (nf (zP w n o)) u)=csc 2 (inn w u u)):csc 2 (inn w (mkC n o u) (mkC n o u))=inn w u u:=by
 rw[prj_mk hn ho]at h
 have e:inn w (fun r=>csc 2 (mkC n o u r)) (fun r=>csc 2 (mkC n o u r))=csc 2 (csc 2 (inn w (mkC n o u) (mkC n o u))):=by
  unfold inn
  rw[<- zss,<- zss]
  refine zfl w _ _ fun r _=>?_
  show cip (csc 2 (mkC n o u r)) (csc 2 (mkC n o u r))=csc 2 (csc 2 (cip (mkC n o u r) (mkC n o u r)))
  generalize mkC n o u r=x
  unfold cip csc
  refine Prod.ext ?_ ?_<;>(simp only;grind)
 rw[e]at h
 exact zwh h
theorem mk_same(hn:n<12)(ho:o<=1){u:Nat->Cx}(h:Fix w (nf (zP w n o)) u):∀ r,r<2^w->mkC n o u r=u r:=fun r hr=>by
 have:=h r hr
 rw[z_act hn ho]at this
 unfold mkC
 split
 ·rfl
 ·rename_i e
  rw[if_neg e]at this
  exact(zc7 this.symm).symm
theorem mk_zero(hn:n<12)(ho:o<=1){u:Nat->Cx}(h:Fix w (eneg (nf (zP w n o))) u):∀ r,r<2^w->mkC n o u r=(0,0):=fun r hr=>by
 have:=h r hr
 rw[zwx,z_act hn ho]at this
 unfold mkC
 split
 ·rename_i e
  rw[if_pos e]at this
  exact zc7 this.symm
 ·rfl
end Go.Tz
namespace Go.Tz
open Go Go.AL Go.Proofs Go.Ma
variable{w:Nat}{b:Int}{wa:List Int}{l:List Ps}{gs:List Gt}
structure Fs where
 (u:Nat->Cx)
 (m:Nat)
def stepF(wa:List Int)(s:As)(f:Fs)(g:Gt):Fs :=
 if mB g=true then⟨if g.k=14/\(wa.getD s.k 0).toNat=1 then gC 1 (gA g) 0 (mkC (gA g) (wa.getD s.k 0).toNat f.u) else mkC (gA g) (wa.getD s.k 0).toNat f.u,f.m⟩
 else if onB s g=true then⟨gC (gK g) (gA g) (gB g) f.u,if gK g=4 then f.m+1 else f.m⟩ else f
def u00(k:Nat):Cx:=if k=0 then(1,0) else(0,0)
def g00:Gt:=⟨0,[],true,0,0⟩
def runF(w:Nat)(wa:List Int)(b:Int)(l:List Ps)(gs:List Gt):Nat->Fs
 | 0=>⟨u00,0⟩
 | i+1=>stepF wa (runA w wa b l (gs.take i)) (runF w wa b l gs i) (gs.getD i g00)
structure Jv (w:Nat) (r:List Ps) (c:Nat) (f:Fs):Prop where
 fix:∀ q,q∈r.map nf->Fix w q f.u
 nrm:csc (2^c) (inn w f.u f.u)=(2^f.m,0)
theorem zv2{k a c:Nat}(hk:gOk k a c)(ha:a<w)(hb:9<=k->c<w){u v:Nat->Cx}(h:∀ r,r<2^w->u r=v r):∀ r,r<2^w->gC k a c u r=gC k a c v r:=fun r hr=>by
 have hA:2^a<2^w:=Nat.pow_lt_pow_right qag ha
 have h1:=h r hr
 have h2:=h _ (Nat.xor_lt_two_pow hr hA)
 rcases hk with⟨k1,k2,_⟩|⟨k1,k2,_⟩
 ·have hk:k=1\/k=2\/k=3\/k=4\/k=5\/k=6:=by omega
  rcases hk with rfl|rfl|rfl|rfl|rfl|rfl<;>simp only[gC,h1,h2]
 ·have hk:k=9\/k=10\/k=11:=by omega
  have hB:2^c<2^w:=Nat.pow_lt_pow_right qag (hb k1)
  have cd_lt:∀(t:Bool) (m:Nat),m<2^w->cd t m<2^w:=fun t m hm=>by cases t;exact Nat.two_pow_pos w;exact hm
  rcases hk with rfl|rfl|rfl<;>simp only[gC]
  ·exact h _ (Nat.xor_lt_two_pow hr (cd_lt _ _ hB))
  ·rw[h1]
  ·exact h _ (Nat.xor_lt_two_pow hr (cd_lt _ _ (Nat.xor_lt_two_pow hA hB)))
theorem fix_gate{k a c:Nat}(hk:gOk k a c)(ha:a<w)(hb:9<=k->c<w){e:E}{u:Nat->Cx}(h:Fix w e u):Fix w (gE k a c e) (gC k a c u):=fun r hr=>by
 rw[gC_act hk]
 exact zv2 hk ha hb h r hr
theorem fix_same{r r':List Ps}(hx:∀ a,a∈r.map nf->xv a.2<2^w)(h:SameG (r.map nf) (r'.map nf))(hG:Ma.Good (r'.map nf)){u:Nat->Cx}(hf:∀ q,q∈r.map nf->Fix w q u):∀ q,q∈r'.map nf->Fix w q u:=fun q hq =>
 zh1 hx hf ((h q).2 (zbd hG hq))
theorem gate_gen'{g:Gt}{bits:Int}(hs:SOk w l)(hc:gchk g w bits=0)(hk:kindB g.k=true):∀ e,Gen ((l.map nf).map (gE (gK g) (gA g) (gB g))) e ↔ Gen ((appG w g l).map nf) e:=fun e=>by
 have hR:=(zrg hc hk).1
 have:=(zbg (zhy hR hs)).2 e
 rwa [znt]at this
theorem sok_xv(hs:SOk w l):∀ a,a∈l.map nf->xv a.2<2^w:=fun a ha=>zrc hs.hi ((zbv hs).inv a ha)
theorem jv_gate{g:Gt}{bits:Int}{r:List Ps}{c:Nat}{f:Fs}(hs:SOk w r)(hc:gchk g w bits=0)(hk:kindB g.k=true)(h:Jv w r c f):Jv w (appG w g r) c ⟨gC (gK g) (gA g) (gB g) f.u,if gK g=4 then f.m+1 else f.m⟩:=by
 have hR:=(zrg hc hk).1
 have hO:=zmf hs.hi hR
 have hab:gA g<w/\(9<=gK g->gB g<w):=qfd
 have hst:=gE_sta hs.hi hO hab.1 hab.2 (zbv hs)
 refine⟨fun q hq=>?_,?_⟩
 ·refine zh1 (L:=(r.map nf).map (gE (gK g) (gA g) (gB g))) (fun a ha=>zrc hs.hi (hst.inv a ha)) (fun a ha=>?_) ((gate_gen' hs hc hk q).2 (zbd (zbv (zpy hc hk hs)).good hq))
  obtain⟨e,he,rfl⟩:=List.mem_map.1 ha
  exact fix_gate hO hab.1 hab.2 (h.fix e he)
 ·dsimp only
  rw[gC_inn hO hab.1 hab.2,ztw]
  by_cases e:gK g=4
  ·rw[if_pos e,if_pos e,Int.mul_comm,<- ztw,h.nrm]
   unfold csc
   refine Prod.ext ?_ ?_
   ·show 2*2^f.m=2^(f.m+1)
    rw[Int.pow_succ,Int.mul_comm]
   ·rfl
  ·rw[if_neg e,if_neg e,Int.mul_one];exact h.nrm
theorem jv_mea{n o:Nat}{r:List Ps}{c:Nat}{f:Fs}(hs:SOk w r)(hn:n<w)(ho:o<=1)(h:Jv w r c f) :
  (expR w r (zP w n o)=1->Jv w r c ⟨mkC n o f.u,f.m⟩)/\(expR w r (zP w n o)=0->Jv w (redRows (prjL (zP w n o) r) (2*w)) (c+1) ⟨mkC n o f.u,f.m⟩)/\(expR w r (zP w n o) = -1->∀ k,k<2^w->mkC n o f.u k=(0,0)):=by
 have hpv:=zkf hn ho
 have hok:=zr6 hs.hi hn ho
 have hpin:=zle hs.hi hpv
 have hpx:=zrc hs.hi hpin
 have hx:=sok_xv hs
 have hst:=zbv hs
 have hE:=zgh hs hpv hok
 have h12:n<12:=by have:=hs.hi;omega
 rcases zcs hE with⟨a,g1⟩|⟨a,g1⟩|⟨a,g1,g2⟩
 ·refine⟨fun _=>?_,fun e=>by omega,fun e=>by omega⟩
  have hu:=mk_same h12 ho (zh1 hx h.fix g1)
  refine⟨fun q hq k hk=>?_,?_⟩
  ·have:=h.fix q hq k hk
   rw[zja (hx q hq) hu k hk]
   exact this.trans (hu k hk).symm
  ·dsimp only
   rw[ziq hu hu];exact h.nrm
 ·refine⟨fun e=>by omega,fun e=>by omega,fun _=>?_⟩
  exact mk_zero h12 ho (zh1 hx h.fix g1)
 ·refine⟨fun e=>by omega,fun _=>?_,fun e=>by omega⟩
  obtain⟨hP,_⟩:=(ztg hs hs (fun _=>Iff.rfl) hpv hok).2 a
  have hr:=zbg hP
  have hxx:=zgq hs.hi hst hpin hok g1 g2
  have hps:=zkn hs.hi hst hpin hok g1 g2
  have hsame:=hr.2
  rw[zhv hs.hi hs.vl hst.good]at hsame
  obtain⟨g,m1,m2⟩:=id hxx
  refine⟨fun q hq=>?_,?_⟩
  ·refine zh1 (L:=proj (nf (zP w n o)) (r.map nf)) (fun a ha=>zrc hs.hi (hps.inv a ha)) (fun b hb=>mk_fix h12 ho ?_) ((hsame q).2 (zbd (zbv hr.1).good hq))
   rcases zii hst.good hxx hb with rfl|⟨k1,k2⟩
   ·exact prj_own hok f.u
   ·exact prj_fix hpx (zrc hs.hi (hps.inv b hb)) (zh1 hx h.fix k1) k2
  ·have e:=mk_inn (w:=w) h12 ho (inn_prj2 hpx (hx g m1) hok (hst.good.ok g m1) (h.fix g m1) (fun e=>m2 (zba e)))
   show csc (2^(c+1)) _=_
   rw[Int.pow_succ,<- ztw,e];exact h.nrm
theorem u00_fix(hw:1<=w/\w<=12):∀ q,q∈(zeroS w).map nf->Fix w q u00:=fun q hq=>by
 obtain⟨p,hp,rfl⟩:=List.mem_map.1 hq
 have:∃ n,n<w/\p=zP w n 0:=by
  obtain⟨i,hi,rfl⟩:=List.mem_map.1 hp
  exact⟨i,List.mem_range.1 hi,rfl⟩
 obtain⟨n,hn,rfl⟩:=this
 intro k hk
 rw[z_act qad qad]
 unfold u00
 by_cases e:k=0
 ·subst e;simp
 ·rw[if_neg e];split<;>rfl
theorem zyr:∀ w:Nat,inn w u00 u00=(1,0)
 | 0=>rfl
 | w+1=>by
  have h:=zyr w
  unfold inn at h⊢
  show cadd (sm w _) (sm w fun v=>cip (u00 (v^^^2^w)) (u00 (v^^^2^w)))=_
  rw[h]
  have e:(sm w fun v=>cip (u00 (v^^^2^w)) (u00 (v^^^2^w)))=sm w fun _=>(0,0):=zfl w _ _ fun v hv=>by
   have:v^^^2^w≠0:=by
    intro e
    have:v=2^w:=by rw[<- zau v (2^w),e,Nat.zero_xor]
    omega
   unfold u00
   rw[if_neg this];rfl
  have z:∀ k:Nat,(sm k fun _=>((0,0):Cx))=(0,0):=fun k=>by
   induction k with
   | zero=>rfl
   | succ k ih=>show cadd (sm k _) (sm k _)=_;rw[ih];rfl
  rw[e,z];rfl
theorem zr5{k a c:Nat}(hk:gOk k a c)(ha:a<w)(hb:9<=k->c<w){u:Nat->Cx}(h:∀ r,r<2^w->u r=(0,0)):∀ r,r<2^w->gC k a c u r=(0,0):=fun r hr=>by
 rw[zv2 hk ha hb (v:=fun _=>(0,0)) h r hr]
 rcases hk with⟨k1,k2,_⟩|⟨k1,k2,_⟩
 ·have hk:k=1\/k=2\/k=3\/k=4\/k=5\/k=6:=by omega
  rcases hk with rfl|rfl|rfl|rfl|rfl|rfl<;>simp only[gC,trn_0]
  split<;>rfl
 ·have hk:k=9\/k=10\/k=11:=by omega
  rcases hk with rfl|rfl|rfl<;>simp only[gC,trn_0]
theorem x_ok{n:Nat}(hw:w<=12)(hn:n<w):gOk 1 n 0:=by unfold gOk;omega
theorem gk_xG(n:Nat):gK (xG n)=1/\gA (xG n)=n/\gB (xG n)=0:=⟨rfl,by show((n:Int)).toNat=n;omega,rfl⟩
theorem mk_0{n o:Nat}{u:Nat->Cx}(h:∀ r,r<2^w->u r=(0,0)):∀ r,r<2^w->mkC n o u r=(0,0):=fun r hr=>by
 unfold mkC
 split
 ·exact h r hr
 ·rfl
theorem dead_step{s:As}{f:Fs}{g:Gt}{bits:Int}(hw:w<=12)(hg:gchk g w bits=0)(hk:mB g=true\/kindB g.k=true)(h:∀ r,r<2^w->f.u r=(0,0)):∀ r,r<2^w->(stepF wa s f g).u r=(0,0):=fun r hr=>by
 unfold stepF
 by_cases hm:mB g=true
 ·obtain⟨_,h2,_⟩:=zfo hg hm
  rw[if_pos hm]
  dsimp only
  split
  ·exact zr5 (x_ok hw h2) h2 (fun q=>by omega) (mk_0 h) r hr
  ·exact mk_0 h r hr
 ·rw[if_neg hm]
  split
  ·have hR:=(zrg hg (hk.resolve_left hm)).1
   exact zr5 (zmf hw hR) qfd qfd h r hr
  ·exact h r hr
theorem zlo{i:Nat}(h:i<gs.length):runF w wa b l gs (i+1)=stepF wa (runA w wa b l (gs.take i)) (runF w wa b l gs i) gs[i]:=by
 show stepF _ _ _ (gs.getD i g00)=_
 rw[List.getD_eq_getElem?_getD,List.getElem?_eq_getElem h];rfl
theorem jv_step{n k:Nat}{s:As}{f:Fs}(h:Inv w b n k s)(hj:Jv w s.r s.c f){g:Gt}(hg:gchk g w b=0)(hk:mB g=true\/kindB g.k=true)(hb:∀ x,x∈wa->x=0\/x=1) :
  ((mB g=true->expR w s.r (pA w wa s g) ≠ -1)->Jv w (stepA w wa s g).r (stepA w wa s g).c (stepF wa s f g))/\((mB g=true/\expR w s.r (pA w wa s g) = -1)->∀ r,r<2^w->(stepF wa s f g).u r=(0,0)):=by
 unfold stepA stepF
 by_cases hm:mB g=true
 ·obtain⟨_,h2,_⟩:=zfo hg hm
  obtain⟨x1,x2⟩:=xG_ok h2
  have ho:=(zho hb s.k).2.1
  obtain⟨j1,j2,j3⟩:=jv_mea h.ok h2 ho hj
  rw[if_pos hm,if_pos hm]
  refine⟨fun hx=>?_,fun⟨_,hx⟩=>?_⟩
  ·obtain⟨r1,r2⟩:=rA_ok h hg hm hb (hx hm)
   have hJ:Jv w (rA w wa s g) (if expR w s.r (pA w wa s g)=1 then s.c else s.c+1) ⟨mkC (gA g) (wa.getD s.k 0).toNat f.u,f.m⟩:=by
    unfold rA
    by_cases e:expR w s.r (pA w wa s g)=1
    ·rw[if_pos e,if_pos e];exact j1 e
    ·rw[if_neg e,if_neg e]
     refine j2 ?_
     rcases zcs (zgh h.ok (zkf h2 ho) (zr6 h.ok.hi h2 ho)) with⟨a,_⟩|⟨a,_⟩|⟨a,_⟩
     ·exact absurd a e
     ·exact absurd a (hx hm)
     ·exact a
   dsimp only
   by_cases e:g.k=14/\(wa.getD s.k 0).toNat=1
   ·rw[if_pos e,if_pos e]
    have:=jv_gate r1 x1 x2 hJ
    rw[(gk_xG (gA g)).1,(gk_xG (gA g)).2.1,(gk_xG (gA g)).2.2]at this
    exact this
   ·rw[if_neg e,if_neg e];exact hJ
  ·dsimp only
   split
   ·exact fun r hr=>zr5 (x_ok h.ok.hi h2) h2 (fun q=>by omega) (j3 hx) r hr
   ·exact j3 hx
 ·have hk2:=hk.resolve_left hm
  rw[if_neg hm,if_neg hm]
  refine⟨fun _=>?_,fun⟨e,_⟩=>absurd e hm⟩
  by_cases e:onB s g=true
  ·rw[if_pos e,if_pos e];exact jv_gate h.ok hg hk2 hj
  ·rw[if_neg e,if_neg e];exact hj
theorem zvp(hw:1<=w/\w<=12)(hA:AOk w b gs wa)(h0:SOk w (zeroS w)):∀ i,i<=gs.length->(∀ j (h:j<gs.length),j<i->badA w wa b (zeroS w) gs j gs[j]=false)->Jv w (runA w wa b (zeroS w) (gs.take i)).r (runA w wa b (zeroS w) (gs.take i)).c (runF w wa b (zeroS w) gs i)
 | 0,_,_=>by
  refine⟨?_,?_⟩
  ·exact fix_same (sok_xv h0) (zbg h0).2 (zbv (zbg h0).1).good (u00_fix hw)
  ·show csc (2^0) (inn w u00 u00)=(2^0,0)
   rw[zyr];rfl
 | i+1,hi,hb=>by
  have hlt:i<gs.length:=qad
  have ih:=zvp hw hA h0 i qad fun j h hj=>hb j h qad
  have hI:=zih hA h0 i qad fun j h hj=>hb j h qad
  have hbi:=hb i hlt qad
  have hmem:=List.getElem_mem hlt
  rw[zee hlt,zlo hlt]
  refine(jv_step hI ih (hA.gc _ hmem) (hA.kd _ hmem) hA.bit).1 fun hm=>?_
  unfold badA at hbi
  rw[hm]at hbi
  simpa using hbi
theorem zwf(hw:1<=w/\w<=12)(hA:AOk w b gs wa)(h0:SOk w (zeroS w)){j:Nat}(hj:j<gs.length)(hbad:badA w wa b (zeroS w) gs j gs[j]=true)(hgood:∀ i (h:i<gs.length),i<j->badA w wa b (zeroS w) gs i gs[i]=false):∀ i,j<i->i<=gs.length->∀ k,k<2^w->(runF w wa b (zeroS w) gs i).u k=(0,0):=by
 intro i hji hi
 induction i with
 | zero=>omega
 | succ i ih =>
  have hlt:i<gs.length:=qad
  have hmem:=List.getElem_mem hlt
  rw[zlo hlt]
  by_cases e:i=j
  ·subst e
   have hJ:=zvp hw hA h0 i qad fun q h hq=>hgood q h hq
   have hI:=zih hA h0 i qad fun q h hq=>hgood q h hq
   unfold badA at hbad
   rw[Bool.and_eq_true,decide_eq_true_iff]at hbad
   exact(jv_step hI hJ (hA.gc _ hmem) (hA.kd _ hmem) hA.bit).2 hbad
  ·exact dead_step hw.2 (hA.gc _ hmem) (hA.kd _ hmem) (ih qad qad)
theorem runF_m:∀ i,(runF w wa b l gs i).m<=i
 | 0=>Nat.le_refl _
 | i+1=>by
  have:=runF_m i
  show(stepF _ _ _ _).m<=_
  unfold stepF
  split
  ·exact qca
  ·split
   ·dsimp only;split<;>omega
   ·exact qad
end Go.Tz
