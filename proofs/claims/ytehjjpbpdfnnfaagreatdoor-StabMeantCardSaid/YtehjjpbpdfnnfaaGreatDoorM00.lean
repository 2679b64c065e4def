import Derived.KernelRfl
/-! Tactics that close a goal, by name. -/
namespace Go
theorem qaa{p:Prop}(h:p:=by first|(simp only[List.set,over,List.take,List.drop,List.append_eq,List.nil_append,List.cons_append,List.length];rfl)|rfl):p:=h
theorem qab{p:Prop}(h:p:=by repeat' first|exact trivial|refine⟨⟨ltB rfl,_,rfl,by first|rfl|assumption,by first|exact zae rfl|exact zaa _ _ _|exact zab rfl⟩,?_⟩):p:=h
theorem qac{p:Prop}(h:p:=by first|exact Nat.zero_le _|exact Nat.le_of_ble_eq_true rfl):p:=h
theorem qad{p:Prop}(h:p:=by omega):p:=h
theorem qae{p:Prop}(h:p:=by repeat' first|exact trivial|refine⟨⟨by first|rfl|assumption,rfl⟩,?_⟩):p:=h
theorem qaf{p:Prop}(h:p:=by repeat' first|exact trivial|(refine And.intro ?_ ?_)|(exact fun _=>rfl)|(exact fun h=>absurd h (Nat.ne_of_beq_eq_false rfl))):p:=h
theorem qag{p:Prop}(h:p:=by decide):p:=h
theorem qah{p:Prop}(h:p:=by kernel_rfl):p:=h
theorem qai{p:Prop}(h:p:=by repeat' first|exact trivial|refine⟨⟨by first|rfl|assumption|exact congrArg (fun n=>AV.d (iD n)) e_i,rfl⟩,?_⟩):p:=h
theorem qaj{p:Prop}(h:p:=by repeat' first|exact trivial|refine⟨⟨by first|rfl|assumption|exact congrArg (fun n=>AV.d (iD n)) e_k,rfl⟩,?_⟩):p:=h
theorem qak{p:Prop}(h:p:=by repeat' first|exact trivial|refine⟨⟨ltB rfl,_,rfl,by first|rfl|assumption,by first|exact zae rfl|exact zaa _ _ _|exact zab rfl|exact trivial|exact⟨rfl,Nat.le_of_ble_eq_true rfl⟩⟩,?_⟩):p:=h
theorem qal{p:Prop}(h:p:=by exact(ok.h_bad h).elim):p:=h
theorem qam{p:Prop}(h:p:=by repeat' first|exact trivial|refine⟨⟨ltB rfl,_,rfl,by first|rfl|assumption|exact zag rfl (by first|rfl|assumption|exact zag rfl (by rw[hsn];exact congrArg some (zax rfl)))|exact zag rfl (by rw[hsn];exact congrArg some (zax rfl)),by first|exact zae rfl|exact zaa _ _ _|exact zab rfl⟩,?_⟩):p:=h
theorem qan{p:Prop}(h:p:=by repeat' first|exact trivial|refine⟨⟨ltB rfl,_,rfl,by first|rfl|assumption,by first|exact zae rfl|exact zaa _ _ _|exact zab rfl|exact trivial|exact⟨rfl,Nat.le_of_ble_eq_true rfl⟩|exact zae rfl⟩,?_⟩):p:=h
theorem qao{p:Prop}(h:p:=by simp[ho,Op.operands]):p:=h
theorem qap{p:Prop}(h:p:=by repeat' first|exact trivial|refine⟨⟨ltB rfl,_,rfl,by first|rfl|assumption|exact zag rfl (by first|rfl|assumption|exact zag rfl h3|exact zag rfl h2)|exact zag rfl h3|exact zag rfl h2,by first|exact zae rfl|exact zaa _ _ _|exact zab rfl⟩,?_⟩):p:=h
theorem qaq{p:Prop}(h:p:=by repeat' first|exact trivial|(refine⟨by first|exact .inl ⟨rfl,rfl⟩|exact .inr ⟨Nat.ne_of_beq_eq_false rfl,Nat.ne_of_beq_eq_false rfl⟩,?_⟩)):p:=h
theorem qar{p:Prop}(h:p:=by repeat' first|exact trivial|refine⟨⟨by first|rfl|assumption|exact congrArg (fun n=>AV.d (iD n)) e1,rfl⟩,?_⟩):p:=h
theorem qas{p:Prop}(h:p:=by repeat' first|exact trivial|(refine⟨⟨⟨Nat.ne_of_beq_eq_false rfl,Nat.ne_of_beq_eq_false rfl,Nat.le_of_ble_eq_true rfl⟩,by first|exact zaa _ _ _|exact zae rfl⟩,?_⟩)):p:=h
theorem qat{p:Prop}(h:p:=by repeat' first|exact trivial|(refine⟨⟨by first|exact .inl (Nat.le_of_ble_eq_true rfl)|exact .inr ⟨Nat.le_of_ble_eq_true rfl,Nat.le_of_ble_eq_true rfl⟩,rfl⟩,?_⟩)):p:=h
theorem qau{p:Prop}(h:p:=by repeat' first|exact trivial|refine⟨⟨ltB rfl,_,rfl,by first|rfl|assumption,by first|exact zae rfl|exact zaa _ _ _|exact zab rfl|exact trivial⟩,?_⟩):p:=h
theorem qav{p:Prop}(h:p:=by repeat' first|exact trivial|refine⟨⟨by first|rfl|assumption|exact congrArg (fun n=>AV.d (iD n)) e_n,rfl⟩,?_⟩):p:=h
theorem qaw{p:Prop}(h:p:=by repeat' first|exact trivial|refine⟨⟨by first|rfl|assumption|exact congrArg (fun n=>AV.d (iD n)) e_i|exact congrArg (fun n=>AV.d (iD n)) hk2,rfl⟩,?_⟩):p:=h
theorem qax{p:Prop}(h:p:=by repeat' first|exact trivial|refine⟨⟨ltB rfl,_,rfl,by first|rfl|assumption|exact zag rfl (by first|rfl|assumption),by first|exact zae rfl|exact zaa _ _ _|exact zab rfl⟩,?_⟩):p:=h
theorem qay{p:Prop}(h:p:=by repeat' first|exact trivial|refine⟨⟨ltB rfl,_,rfl,by first|rfl|assumption|exact congrArg some (zbm hsame),by first|exact zae rfl|exact zaa _ _ _|exact zab rfl|exact trivial|exact⟨rfl,Nat.le_of_ble_eq_true rfl⟩⟩,?_⟩):p:=h
theorem qaz{p:Prop}(h:p:=by repeat' first|exact trivial|refine⟨⟨ltB rfl,_,rfl,by first|rfl|assumption|exact zag rfl (by first|rfl|assumption|exact zag rfl hg)|exact zag rfl hg,by first|exact zae rfl|exact zaa _ _ _|exact zab rfl⟩,?_⟩):p:=h
theorem qa0{p:Prop}(h:p:=by repeat' first|exact trivial|refine⟨⟨by first|rfl|assumption|exact congrArg (fun n=>AV.d (iD n)) e_m,rfl⟩,?_⟩):p:=h
theorem qa1{p:Prop}(h:p:=by repeat' first|exact trivial|refine⟨⟨by first|rfl|assumption|exact congrArg (fun n=>AV.d (iD n)) e_q,rfl⟩,?_⟩):p:=h
theorem qa2{p:Prop}(h:p:=by repeat' first|exact trivial|refine⟨⟨by first|rfl|assumption|exact congrArg (fun n=>AV.d (iD n)) e_i|(rw[hs];rfl),rfl⟩,?_⟩):p:=h
theorem qa3{p:Prop}(h:p:=by repeat' first|exact trivial|refine⟨⟨by first|rfl|assumption|exact congrArg (fun n=>AV.d (iD n)) e_i|exact congrArg (fun n=>AV.d (iD n)) hia,rfl⟩,?_⟩):p:=h
theorem qa4{p:Prop}(h:p:=by repeat' first|exact trivial|(refine⟨by first|rfl|exact zff rfl,?_⟩)):p:=h
theorem qa5{p:Prop}(h:p:=by simp[ho,Op.operands,Call.operands]):p:=h
theorem qa6{p:Prop}(h:p:=by simpa using h):p:=h
theorem qa7{p:Prop}(h:p:=by repeat' first|exact trivial|refine⟨⟨ltB rfl,_,rfl,by first|rfl|assumption|exact zag rfl (by first|rfl|assumption|exact zag rfl (show some (Blk.ren _ (dblk 4 _))=_ from by rw[zbf]))|exact zag rfl (show some (Blk.ren _ (dblk 4 _))=_ from by rw[zbf]),by first|exact zae rfl|exact zaa _ _ _|exact zab rfl⟩,?_⟩):p:=h
theorem qa8{p:Prop}(h:p:=by first|exact zks (by simp)|(simp only[List.set,over,List.take,List.drop,List.append_eq,List.nil_append,List.cons_append,List.length];rfl)|rfl):p:=h
theorem qa9{p:Prop}(h:p:=by rw[Nat.testBit_xor,hxa];cases r.testBit a<;>cases v.testBit a<;>rfl):p:=h
theorem qba{p:Prop}(h:p:=by repeat' first|exact trivial|refine⟨⟨by first|rfl|assumption|exact congrArg (fun n=>AV.d (iD n)) e_j|exact congrArg (fun n=>AV.d (iD n)) e2,rfl⟩,?_⟩):p:=h
theorem qbb{p:Prop}(h:p:=by repeat' first|exact trivial|(refine⟨rfl,?_⟩)):p:=h
theorem qbc{p:Prop}(h:p:=by rename_i q;simp only[q];exact⟨trivial,h⟩):p:=h
theorem qbd{p:Prop}(h:p:=by repeat' first|exact trivial|refine⟨⟨ltB rfl,_,rfl,by first|rfl|assumption|exact zag rfl (by first|rfl|assumption|exact h2|exact zag rfl h3|exact zag rfl h2)|exact h2|exact zag rfl h3|exact zag rfl h2,by first|exact zae rfl|exact zaa _ _ _|exact zab rfl⟩,?_⟩):p:=h
theorem qbe{p:Prop}(h:p:=by repeat' first|exact trivial|refine⟨⟨ltB rfl,_,rfl,by first|rfl|assumption|exact zag rfl (by first|rfl|assumption|exact zag rfl h3|exact zag rfl h2|exact h2)|exact zag rfl h3|exact zag rfl h2|exact h2,by first|exact zae rfl|exact zaa _ _ _|exact zab rfl⟩,?_⟩):p:=h
theorem qbf{p:Prop}(h:p:=by repeat' first|exact trivial|refine⟨⟨ltB rfl,_,rfl,by first|rfl|assumption|exact congrArg some (zbm fun j=>by rw[prS_0])|(rw[hia];rfl),by first|exact zae rfl|exact zaa _ _ _|exact zab rfl|exact trivial|exact⟨rfl,Nat.le_of_ble_eq_true rfl⟩⟩,?_⟩):p:=h
theorem qbg{p:Prop}(h:p:=by repeat' first|exact trivial|refine⟨⟨ltB rfl,_,rfl,by first|rfl|assumption|exact zag rfl (by first|rfl|assumption|exact zag rfl q3|exact zag rfl q2)|exact zag rfl q3|exact zag rfl q2,by first|exact zae rfl|exact zaa _ _ _|exact zab rfl⟩,?_⟩):p:=h
theorem qbh{p:Prop}(h:p:=by exfalso;first|(simp at ht;done)|(simp at ht;omega)):p:=h
theorem qbi{p:Prop}(h:p:=by first|assumption|exact⟨by kernel_rfl,rfl⟩|decide|omega):p:=h
theorem qbj{p:Prop}(h:p:=by first|trivial|assumption|omega):p:=h
theorem qbk{p:Prop}(h:p:=by first|exact⟨by decide,by decide,rfl,by decide⟩|assumption|exact⟨by kernel_rfl,rfl⟩|decide|omega):p:=h
theorem qbl{p:Prop}(h:p:=by first|omega|(simp at *;omega)):p:=h
theorem qbm{p:Prop}(h:p:=by first|exact⟨Int.natCast_nonneg _,by omega⟩|assumption|exact⟨by kernel_rfl,rfl⟩|decide|omega):p:=h
theorem qbn{p:Prop}(h:p:=by first|exact Nat.le_refl _|exact⟨by rw[List.length_map,List.length_map],by decide,by show(2*(gs.length+1)+192)*48<=281474976710656;omega⟩|assumption|exact⟨by kernel_rfl,rfl⟩|decide|omega):p:=h
theorem qbo{p:Prop}(h:p:=by simp;omega):p:=h
theorem qbp{p:Prop}(h:p:=by first|exact Int.natCast_nonneg _|assumption|exact⟨by kernel_rfl,rfl⟩|decide|omega):p:=h
theorem qbq{p:Prop}(h:p:=by first|exact⟨hs1,Nat.le_refl _,hs2⟩|assumption|exact⟨by kernel_rfl,rfl⟩|decide|omega):p:=h
theorem qbr{p:Prop}(h:p:=by rw[zcb qad qad];show _=_ + -(_*_);exact Int.sub_eq_add_neg):p:=h
theorem qbs{p:Prop}(h:p:=by first|exact hnn _|assumption|exact⟨by kernel_rfl,rfl⟩|decide|omega):p:=h
theorem qbt{p:Prop}(h:p:=by unfold isAppend at ho;simp[ho,Op.operands,Call.operands]):p:=h
theorem qbu{p:Prop}(h:p:=by rw[List.length_take];omega):p:=h
theorem qbv{p:Prop}(h:p:=by repeat' first|exact trivial|refine⟨⟨ltB rfl,_,rfl,by first|rfl|assumption|exact zag rfl (by first|rfl|assumption),by first|exact zae rfl|exact zaa _ _ _|exact zab rfl|exact trivial|exact⟨rfl,Nat.le_of_ble_eq_true rfl⟩⟩,?_⟩):p:=h
theorem qbw{p:Prop}(h:p:=by exfalso;simp at ht;omega):p:=h
theorem qbx{p:Prop}(h:p:=by first|exact hnn|assumption|exact⟨by kernel_rfl,rfl⟩|decide|omega):p:=h
theorem qby{p:Prop}(h:p:=by first|exact⟨rfl,by decide,by simp only[List.length_map,Nat.zero_add];omega⟩|assumption|exact⟨by kernel_rfl,rfl⟩|decide|omega|exact⟨rfl,by decide,by simp only[List.length_map,Nat.zero_add];omega⟩):p:=h
theorem qbz{p:Prop}(h:p:=by repeat' first|exact trivial|refine⟨⟨ltB rfl,_,rfl,by first|rfl|assumption|exact congrArg some (zbm hst2),by first|exact zae rfl|exact zaa _ _ _|exact zab rfl|exact trivial|exact⟨rfl,Nat.le_of_ble_eq_true rfl⟩⟩,?_⟩):p:=h
theorem qb0{p:Prop}(h:p:=by repeat' first|exact trivial|refine⟨⟨by first|rfl|assumption|exact congrArg (fun n=>AV.d (iD n)) e_c,rfl⟩,?_⟩):p:=h
theorem qb1{p:Prop}(h:p:=by rw[Nat.pow_succ];omega):p:=h
theorem qb2{p:Prop}(h:p:=by rw[if_pos ea]at hab;rw[zaj,if_pos ea];exact hab):p:=h
theorem qb3{p:Prop}(h:p:=by simpa using ht):p:=h
theorem qb4{p:Prop}(h:p:=by rw[List.length_replicate,Nat.zero_add];exact Nat.le_refl _):p:=h
theorem qb5{p:Prop}(h:p:=by first|rfl|exact zpb h_i):p:=h
theorem qb6{p:Prop}(h:p:=by first|rfl|exact lendW rfl (by rw[List.length_map,hlen])):p:=h
theorem qb7{p:Prop}(h:p:=by rw[if_pos e]at hm;left;rw[zaj,if_pos e,hm]):p:=h
theorem qb8{p:Prop}(h:p:=by simpa using ha):p:=h
theorem qb9{p:Prop}(h:p:=by first|rfl|exact hgg|exact hwg):p:=h
theorem qca{p:Prop}(h:p:=by dsimp only;omega):p:=h
theorem qcb{p:Prop}(h:p:=by rw[zad _ _ e]at h1;exact⟨n,b,h1,h2⟩):p:=h
theorem qcc{p:Prop}(h:p:=by first|exact zf3 (x:=[_,_,_,_]) h_m|(simp only[List.set,over,List.take,List.drop,List.append_eq,List.nil_append,List.cons_append,List.length];rfl)|rfl):p:=h
theorem qcd{p:Prop}(h:p:=by first|exact zf3 (x:=[_,_,_,_]) sp1|(simp only[List.set,over,List.take,List.drop,List.append_eq,List.nil_append,List.cons_append,List.length];rfl)|rfl):p:=h
theorem qce{p:Prop}(h:p:=by repeat' first|exact trivial|refine⟨⟨ltB rfl,_,rfl,by first|rfl|assumption|(rw[hnx];rfl),by first|exact zae rfl|exact zaa _ _ _|exact zab rfl|exact zaa _ _ _⟩,?_⟩):p:=h
theorem qcf{p:Prop}(h:p:=by repeat' first|exact trivial|refine⟨⟨ltB rfl,_,rfl,by first|rfl|assumption|(rw[e];rfl),by first|exact zae rfl|exact zaa _ _ _|exact zab rfl|exact zaa _ _ _⟩,?_⟩):p:=h
theorem qcg{p:Prop}(h:p:=by first|rfl|exact zb1 h_m hgm):p:=h
theorem qch{p:Prop}(h:p:=by unfold Big P4.Bd at h;omega):p:=h
theorem qci{p:Prop}(h:p:=by repeat' first|exact trivial|refine⟨⟨ltB rfl,_,rfl,by first|rfl|assumption|exact hs1,by first|exact zae rfl|exact zaa _ _ _|exact zab rfl|exact trivial⟩,?_⟩):p:=h
theorem qcj{p:Prop}(h:p:=by first|exact hsl|assumption|exact⟨by kernel_rfl,rfl⟩|decide|omega):p:=h
theorem qck{p:Prop}(h:p:=by rw[List.map_append];rfl):p:=h
theorem qcl{p:Prop}(h:p:=by repeat' first|exact trivial|refine⟨⟨ltB rfl,_,rfl,by first|rfl|assumption|(rw[hnx];rfl),by first|exact zae rfl|exact zaa _ _ _|exact zab rfl⟩,?_⟩):p:=h
theorem qcm{p:Prop}(h:p:=by repeat' first|exact trivial|refine⟨⟨ltB rfl,_,rfl,by first|rfl|assumption|(rw[hsn];rfl),by first|exact zae rfl|exact zaa _ _ _|exact zab rfl⟩,?_⟩):p:=h
theorem qcn{p:Prop}(h:p:=by repeat' first|exact trivial|refine⟨⟨ltB rfl,_,rfl,by first|rfl|assumption|(rw[e];rfl),by first|exact zae rfl|exact zaa _ _ _|exact zab rfl⟩,?_⟩):p:=h
theorem qco{p:Prop}(h:p:=by exact Int.mul_nonneg_of_nonpos_of_nonpos q q):p:=h
theorem qcp{p:Prop}(h:p:=by rw[getD_replicate_false]at hl;cases hl):p:=h
theorem qcq{p:Prop}(h:p:=by rw[za8]at h;split at h;cases h;exact h):p:=h
theorem qcr{p:Prop}(h:p:=by exact(hx.ok.h_bad h).elim):p:=h
theorem qcs{p:Prop}(h:p:=by rw[e];decide):p:=h
theorem qct{p:Prop}(h:p:=by intro g ds hgd;exact(hH.glob g ds hgd).later htr hH):p:=h
theorem qcu{p:Prop}(h:p:=by have:=h.len;have:=h.hi;omega):p:=h
theorem qcv{p:Prop}(h:p:=by rw[if_pos e2]at hg;exact .inl (by rw[e2,g2,hg])):p:=h
theorem qcw{p:Prop}(h:p:=by rw[if_pos e3]at hg;exact .inl (by rw[e3,g3,hg])):p:=h
theorem qcx{p:Prop}(h:p:=by exact absurd ht qag):p:=h
theorem qcy{p:Prop}(h:p:=by first|rfl|exact hfk):p:=h
theorem qcz{p:Prop}(h:p:=by simpa using h1):p:=h
theorem qc0{p:Prop}(h:p:=by rw[if_neg ea]at hab;cases hab):p:=h
theorem qc1{p:Prop}(h:p:=by rename_i hc;rw[zwb]at h;exact⟨_,h,fun H2 hE=>zqt (st:={ st with heap:=H2 }) ho ((hev H2 c).symm.trans hc) rfl⟩):p:=h
theorem qc2{p:Prop}(h:p:=by repeat' first|exact trivial|refine⟨⟨by first|rfl|assumption|exact congrArg (fun n=>AV.d (iD n)) e_j,rfl⟩,?_⟩):p:=h
theorem qc3{p:Prop}(h:p:=by simp):p:=h
theorem qc4{p:Prop}(h:p:=by repeat' first|exact trivial|refine⟨⟨by first|rfl|assumption|exact congrArg (fun n=>AV.d (iD n)) e2,rfl⟩,?_⟩):p:=h
theorem qc5{p:Prop}(h:p:=by rcases Nat.lt_or_ge j m with q|q;exact q;exact absurd (by rw[show j=m by omega];exact h0) hz):p:=h
theorem qc6{p:Prop}(h:p:=by rw[h];exact Nat.mul_pos (Nat.two_pow_pos t) qad):p:=h
theorem qc7{p:Prop}(h:p:=by first|exact of_decide_eq_true qah|assumption|exact⟨by kernel_rfl,rfl⟩|decide|omega):p:=h
theorem qc8{p:Prop}(h:p:=by subst en;rw[zaf]at hgn;cases hgn;exact⟨.inr rfl,hbr⟩):p:=h
theorem qc9{p:Prop}(h:p:=by exact⟨a,fz,(World.putObj_heap_other hj).trans h,rfl⟩):p:=h
theorem qda{p:Prop}(h:p:=by rw[List.getD_eq_getElem?_getD,List.getElem?_eq_getElem (show i<l.length by omega)];rfl):p:=h
theorem qdb{p:Prop}(h:p:=by rw[if_pos e]at hm;rw[e,hg,hm]):p:=h
theorem qdc{p:Prop}(h:p:=by rw[l7];decide):p:=h
theorem qdd{p:Prop}(h:p:=by have:=fs_m h (Nat.le_of_lt hi);omega):p:=h
theorem qde{p:Prop}(h:p:=by first|rfl|exact zeu h_i):p:=h
theorem qdf{p:Prop}(h:p:=by first|rfl|exact zm6 h_i):p:=h
theorem qdg{p:Prop}(h:p:=by first|rfl|exact zm6 hlt):p:=h
theorem qdh{p:Prop}(h:p:=by(intro j hj;rcases Nat.lt_or_ge j i with h|h;exact I_i j h;rw[show j=i by omega];exact hb)):p:=h
theorem qdi{p:Prop}(h:p:=by exact zdc ok hT hdst h):p:=h
theorem qdj{p:Prop}(h:p:=by unfold gR at h;omega):p:=h
theorem qdk{p:Prop}(h:p:=by rw[if_neg e]at hm;cases hm):p:=h
theorem qdl{p:Prop}(h:p:=by obtain⟨k,_,rfl⟩:=List.mem_map.1 (List.mem_of_getElem? h1);rfl):p:=h
theorem qdm{p:Prop}(h:p:=by rw[if_pos e2]at hg;rw[e2,h2,hg]):p:=h
theorem qdn{p:Prop}(h:p:=by rw[if_pos e3]at hg;rw[e3,h3,hg]):p:=h
theorem qdo{p:Prop}(h:p:=by exact Nat.testBit_lt_two_pow (Nat.lt_of_lt_of_le h1 (Nat.pow_le_pow_right qag qad))):p:=h
theorem qdp{p:Prop}(h:p:=by exact Nat.testBit_lt_two_pow (Nat.lt_of_lt_of_le h2 (Nat.pow_le_pow_right qag qad))):p:=h
theorem qdq{p:Prop}(h:p:=by first|rfl|exact hgu|exact hgv):p:=h
theorem qdr{p:Prop}(h:p:=by rw[List.getElem?_take]at hj;split at hj;exact hj;cases hj):p:=h
theorem qds{p:Prop}(h:p:=by rw[e2]at e3;exact absurd e3 qag):p:=h
theorem qdt{p:Prop}(h:p:=by rw[zd1 hw g1 (hv _ hm)];exact zbu hG g2 (zbd hG (List.mem_map.2 ⟨_,hm,rfl⟩))):p:=h
theorem qdu{p:Prop}(h:p:=by exact⟨hd,x,h1,x,v,st'.heap,st'.nx,C',rfl,rfl,hK,h2,hR'.heap,hR'.names,hT⟩):p:=h
theorem qdv{p:Prop}(h:p:=by intro r hr;rw[List.mem_singleton.1 hr];exact hvl a0 sp1):p:=h
theorem qdw{p:Prop}(h:p:=by rw[hl,Nat.succ_mul];omega):p:=h
theorem qdx{p:Prop}(h:p:=by rw[e1,List.map_append];exact congrArg some (zax rfl)):p:=h
theorem qdy{p:Prop}(h:p:=by rw[e2,List.map_append];exact congrArg some (zax rfl)):p:=h
theorem qdz{p:Prop}(h:p:=by exact zd5 ok hT hdst h):p:=h
theorem qd0{p:Prop}(h:p:=by rw[y1];rfl):p:=h
theorem qd1{p:Prop}(h:p:=by exact(zan _ _ (Nat.ne_of_beq_eq_false rfl)).trans (tv 0 0 34 _ rfl hl)):p:=h
theorem qd2{p:Prop}(h:p:=by exact(zan _ _ (Nat.ne_of_beq_eq_false rfl)).trans (tv 1 1 35 _ rfl hl)):p:=h
theorem qd3{p:Prop}(h:p:=by simpa using hj):p:=h
theorem qd4{p:Prop}(h:p:=by simp[IntKind.wrap,IntKind.bits,IntKind.signed]):p:=h
theorem qd5{p:Prop}(h:p:=by have:=hR.names q q';simp only at this;omega):p:=h
theorem qd6{p:Prop}(h:p:=by simp[Ctx.alloc]):p:=h
theorem qd7{p:Prop}(h:p:=by simpa using hi):p:=h
theorem qd8{p:Prop}(h:p:=by simpa using hn):p:=h
theorem qd9{p:Prop}(h:p:=by first|rfl|exact zb1 sp1 hgA|exact lendA (congrArg some (zbm hfin)) qc3):p:=h
theorem qea{p:Prop}(h:p:=by exfalso;simp at ht):p:=h
theorem qeb{p:Prop}(h:p:=by simp[h1]):p:=h
theorem qec{p:Prop}(h:p:=by simp[h]):p:=h
theorem qed{p:Prop}(h:p:=by cases h):p:=h
theorem qee{p:Prop}(h:p:=by simpa[AV.bel] using h):p:=h
theorem qef{p:Prop}(h:p:=by simpa using a2):p:=h
theorem qeg{p:Prop}(h:p:=by simpa using hl):p:=h
theorem qeh{p:Prop}(h:p:=by simpa using hL):p:=h
theorem qei{p:Prop}(h:p:=by have:=hH.ro j hj;simpa[Ctx.put] using this):p:=h
theorem qej{p:Prop}(h:p:=by simpa using hsize):p:=h
theorem qek{p:Prop}(h:p:=by simpa[show ¬ 7=i by omega] using hl):p:=h
theorem qel{p:Prop}(h:p:=by have:=(List.getElem?_eq_some_iff.1 a1).1;simpa using this):p:=h
theorem qem{p:Prop}(h:p:=by simp[hl]):p:=h
theorem qen{p:Prop}(h:p:=by simp[hq]):p:=h
theorem qeo{p:Prop}(h:p:=by simp only[List.length_cons,Array.length_toList];omega):p:=h
theorem qep{p:Prop}(h:p:=by exact(zan _ _ (Nat.ne_of_beq_eq_false rfl)).trans (tv 2 2 36 _ rfl hl)):p:=h
theorem qeq{p:Prop}(h:p:=by exact(zan _ _ (Nat.ne_of_beq_eq_false rfl)).trans (tv 4 4 38 _ rfl hl)):p:=h
theorem qer{p:Prop}(h:p:=by intro y hy;rw[List.mem_singleton.1 hy];exact hFv):p:=h
theorem qes{p:Prop}(h:p:=by exact(zan _ _ (Nat.ne_of_beq_eq_false rfl)).trans (tv 6 6 7 _ rfl hl)):p:=h
theorem qet{p:Prop}(h:p:=by first|assumption|decide):p:=h
theorem qeu{p:Prop}(h:p:=by rw[Nat.pow_succ,Nat.mul_comm (2^a) 2,Nat.mul_assoc]):p:=h
theorem qev{p:Prop}(h:p:=by simp only[List.length_map,List.length_cons];omega):p:=h
theorem qew{p:Prop}(h:p:=by exact Int.mul_nonneg q q):p:=h
theorem qex{p:Prop}(h:p:=by rw[znw];decide):p:=h
theorem qey{p:Prop}(h:p:=by rw[List.length_map,zhl]):p:=h
theorem qez{p:Prop}(h:p:=by rw[hb,ej]):p:=h
theorem qe0{p:Prop}(h:p:=by rw[zad _ _ hnm];exact hg):p:=h
theorem qe1{p:Prop}(h:p:=by first|rfl|exact zb1 h_m hgm|exact zb1 sp1 hgA):p:=h
theorem qe2{p:Prop}(h:p:=by rw[Int.toNat_natCast,Nat.sub_zero,List.map_take]):p:=h
theorem qe3{p:Prop}(h:p:=by rw[List.length_map,h2.1];exact Nat.le_refl _):p:=h
theorem qe4{p:Prop}(h:p:=by rw[List.length_map,hlen];exact Nat.le_refl _):p:=h
theorem qe5{p:Prop}(h:p:=by rw[Int.natCast_pow];rfl):p:=h
theorem qe6{p:Prop}(h:p:=by rw[g2];exact(List.getElem?_eq_some_iff.1 hv).1):p:=h
theorem qe7{p:Prop}(h:p:=by rw[q1];exact(List.getElem?_eq_some_iff.1 hq).1):p:=h
theorem qe8{p:Prop}(h:p:=by exact(hR.env.env m).later h2 hR.heap):p:=h
theorem qe9{p:Prop}(h:p:=by rw[<- Nat.xor_assoc,Nat.xor_self,Nat.zero_xor]):p:=h
theorem qfa{p:Prop}(h:p:=by subst em;exact h5.img m _ k hg' h6 h7):p:=h
theorem qfb{p:Prop}(h:p:=by have:=(List.getElem?_eq_some_iff.1 a2).1;omega):p:=h
theorem qfc{p:Prop}(h:p:=by rw[Nat.succ_mul];omega):p:=h
theorem qfd{p:Prop}(h:p:=by unfold gR at hR;omega):p:=h
theorem qfe{p:Prop}(h:p:=by exact⟨_,h,fun H2 hE=>zu3 (st:={ st with heap:=H2 }) ho hx⟩):p:=h
theorem qff{p:Prop}(h:p:=by simpa only[if_neg (Ne.symm i65)] using a):p:=h
theorem qfg{p:Prop}(h:p:=by simpa only[if_neg (Ne.symm i66)] using a):p:=h
theorem qfh{p:Prop}(h:p:=by rw[<- hA];exact(List.nodup_range).filter _):p:=h
theorem qfi{p:Prop}(h:p:=by rw[zcb qad qad];omega):p:=h
theorem qfj{p:Prop}(h:p:=by subst en;rw[zaf]at hgn;cases hgn;exact⟨.inr rfl,.inl ⟨by simp[C'],rfl⟩⟩):p:=h
theorem qfk{p:Prop}(h:p:=by exfalso;simp at ht;exact absurd ht (Int.not_lt.2 (Int.natCast_nonneg _))):p:=h
theorem qfl{p:Prop}(h:p:=by rw[if_neg e3]at hg;cases hg):p:=h
theorem qfm{p:Prop}(h:p:=by rw[if_pos e4]at hg;cases hg):p:=h
theorem qfn{p:Prop}(h:p:=by subst en;rw[zaf]at h;cases h;exact hg):p:=h
theorem qfo{p:Prop}(h:p:=by rw[zad _ _ em]at h;cases h):p:=h
theorem qfp{p:Prop}(h:p:=by simpa using hs):p:=h
theorem qfq{p:Prop}(h:p:=by simpa using a):p:=h
theorem qfr{p:Prop}(h:p:=by simpa only[if_neg (Ne.symm i0)] using a):p:=h
theorem qfs{p:Prop}(h:p:=by unfold maxLen;omega):p:=h
theorem qft{p:Prop}(h:p:=by obtain⟨y,h1,h2⟩:=h;exact⟨y,h1,h2⟩):p:=h
theorem qfu{p:Prop}(h:p:=by rw[zad _ _ e]at h;exact⟨b,h⟩):p:=h
theorem qfv{p:Prop}(h:p:=by rename_i q1 q2 q3;simp at q1 q2 q3;omega):p:=h
theorem qfw{p:Prop}(h:p:=by rw[hs2];exact congrArg some (zax rfl)):p:=h
theorem qfx{p:Prop}(h:p:=by rw[hvs];exact congrArg some (zax rfl)):p:=h
theorem qfy{p:Prop}(h:p:=by rw[hws];exact congrArg some (zax rfl)):p:=h
theorem qfz{p:Prop}(h:p:=by simpa using hp):p:=h
theorem qf0{p:Prop}(h:p:=by unfold cadd;refine Prod.ext ?_ ?_<;>simp):p:=h
theorem qf1{p:Prop} (h:p:=by 
 intro m A_m h_m I_m N_m
 have e_m:iadd .i64 (m:Int) 1=((m+1:Nat):Int):=zah qbl
 have hcm:=zlb (G:=GG) hw hpv (hvl m h_m)
 have hst:∀ j,(if j=m then Ps.l (prS (zP w n o) rf a0 (m+1) m) else Ps.l (prS (zP w n o) rf a0 m j))=Ps.l (prS (zP w n o) rf a0 (m+1) j):=fun j=>zu7 j
 have hgm:(fun j=>Ps.l (prS (zP w n o) rf a0 m j)) m=Ps.l (rf m):=by dsimp only;rw[prS_at]
 cases hbm:comV (zP w n o) (rf m) with
 | true =>
  rw[hbm]at hcm
  have hsame:∀ j,Ps.l (prS (zP w n o) rf a0 m j)=Ps.l (prS (zP w n o) rf a0 (m+1) j):=fun j=>by rw[zkp (.inl hbm)]
  generalize prS (zP w n o) rf a0 m=g at hgm hsame hst
  conv=>whnf
  repeat (refine LookP.mk _ rfl ?_;conv=>whnf)
  intro t ht
  cases t
  ·exact qbh
  conv=>whnf
  repeat' first|((first|refine LookP.mk _ qcg ?_|refine ShlP.mk _ qaa ?_|refine And.intro qbi ?_|refine zak hcm ?_|refine HpP.force ?_);conv=>whnf)
  refine N_m _ ?_ ?_
  ·exact qbj
  ·refine zac qac ?_ ?_ trivial
   ·exact qa0
   ·exact qay
 | false =>
  rw[hbm]at hcm
  by_cases hma:m=a0
  ·have hsame:∀ j,Ps.l (prS (zP w n o) rf a0 m j)=Ps.l (prS (zP w n o) rf a0 (m+1) j):=fun j=>by rw[zkp (.inr hma)]
   generalize prS (zP w n o) rf a0 m=g at hgm hsame hst
   generalize prS (zP w n o) rf a0 (m+1)=g' at hsame hst N_m
   subst hma
   conv=>whnf
   repeat (refine LookP.mk _ rfl ?_;conv=>whnf)
   intro t ht
   cases t
   ·exact qbh
   conv=>whnf
   repeat' first|((first|refine LookP.mk _ qcg ?_|refine ShlP.mk _ qaa ?_|refine And.intro qbi ?_|refine zak hcm ?_|refine HpP.force ?_);conv=>whnf)
   refine za9 pok ?_
   conv=>whnf
   repeat' first|((first|refine LookP.mk _ rfl ?_|rw[hB1]|refine bneT ?_);conv=>whnf)
   refine N_m _ ?_ ?_
   ·exact qbj
   ·refine zac qac ?_ ?_ trivial
    ·exact qa0
    ·exact qay
  ·have hma':(m:Int)≠a0:=by omega
   have hta:=ze5 (G:=GG) hw (rf m) [rf a0] true qc3 (hvl m h_m) qdv
   have hme2:([rf a0].foldl mulS (rf m))=prS (zP w n o) rf a0 (m+1) m:=(prS_new hma hbm).symm
   rw[hme2]at hta
   have hga:prS (zP w n o) rf a0 m a0=rf a0:=zu8
   generalize prS (zP w n o) rf a0 m=g at hgm hst hga
   generalize hg1:prS (zP w n o) rf a0 (m+1)=g' at hst hta N_m
   generalize hr':g' m=r' at hta hst
   have hst2:∀ j,(if j=m then [iD r'.w,iD r'.x,iD r'.z,iD r'.p] else Ps.l (g j))=Ps.l (g' j):=hst
   have hgA:(fun j=>Ps.l (g j)) a0=Ps.l (rf a0):=by dsimp only;rw[hga]
   conv=>whnf
   repeat (refine LookP.mk _ rfl ?_;conv=>whnf)
   intro t ht
   cases t
   ·exact qbh
   conv=>whnf
   repeat' first|((first|refine LookP.mk _ qcg ?_|refine ShlP.mk _ qaa ?_|refine And.intro qbi ?_|refine zak hcm ?_|refine HpP.force ?_);conv=>whnf)
   refine za9 pok ?_
   conv=>whnf
   repeat' first|((first|refine LookP.mk _ qe1 ?_|refine ShlP.mk _ qcc ?_|refine And.intro qbm ?_|rw[hB1]|refine bneF hma' ?_|refine zam hta ?_|refine HpP.force ?_);conv=>whnf)
   refine N_m _ ?_ ?_
   ·exact qbj
   ·refine zac qac ?_ ?_ trivial
    ·exact qa0
    ·exact qbz):p:=h
theorem qf2{p:Prop} (h:p:=by 
 refine zac qac ?_ ?_ trivial
 ·exact qae
 ·exact qab):p:=h
theorem qf3{p:Prop} (h:p:=by 
 refine zac qac ?_ ?_ trivial
 ·exact qai
 ·exact qab):p:=h
theorem qf4{p:Prop} (h:p:=by 
 refine zac qac ?_ ?_ trivial
 ·exact qaj
 ·exact qab):p:=h
theorem qf5{p:Prop} (h:p:=by 
 refine zaz (za4 pok Tryz.func137 zn1 (K:=fun v H m=>v=rV c 0/\H.get 2=some (wkF w 14 F)/\H.get 14=some (dblk 4 (Q.map Ps.l))) ?_) ?_
 ·conv=>whnf
  repeat' first|((first|refine LookP.mk _ rfl ?_|refine ShlP.mk _ qaa ?_|refine ze4 hM (Nat.le_refl 12) rfl rfl ?_|refine zfh ?_|refine zq2 ha rfl rfl qag hml ?_|refine HpP.force ?_);conv=>whnf)
  refine fin ⟨rfl,rfl,?_⟩
  show some (Blk.ren _ (dblk 4 _))=_
  rw[zbf]
 ·rintro v H m ⟨rfl,h2,h3⟩
  refine⟨rV c 0,[(2,some (wkF w 12 F)),(12,some (dblk 4 (Q.map Ps.l)))],13,?_,rfl,rfl,rfl,rfl⟩
  first|refine zav [(2,2),(12,14)] ?_ ?_ ?_ trivial|refine zap [(2,2),(12,14)] rfl rfl ?_ ?_ ?_ trivial
  ·exact qae
  ·exact qbe
  ·exact qaf):p:=h
theorem qf6{p:Prop} (h:p:=by 
 have h5:=h2.weaken (Y:=X) fun q hq=>(hX q hq).1
 refine{ os:=h5.os,tape:=h5.tape,output:=h5.output,size:=h5.size,shape:=h5.shape,frame:=h5.frame,names:=h5.names,ros:=h5.ros,img:=fun m bl k h1 h6 h7=>?_,rob:=h5.rob }
 by_cases em:m=nm
 ·exact qfa
 ·simp only at h1
  rw[zad _ _ em]at h1;exact h5.img m bl k h1 h6 h7):p:=h
theorem qf7{p:Prop} (h:p:=by 
 intro A_last I_last
 conv=>whnf
 repeat' first|((first|refine And.intro qbi ?_|fail);conv=>whnf)|(intro t ht;cases t<;>conv=>whnf)
 ·rw[List.take_length]at I_last
  rw[zfd I_last];exact fin rfl
 ·exact qea):p:=h
theorem qf8{p:Prop} (h:p:=by 
 intro n n' b b1 j h1 h2 e1 e2
 have old:∀ n b,AHeap.get ((nm,some b')::H) n=some b->∃ b2,H.get n=some b2:=fun n b h=>by
  by_cases e:n=nm
  ·subst e;exact⟨b0,hg⟩
  ·exact qfu
 obtain⟨q1,g1⟩:=old n b h1
 obtain⟨q2,g2⟩:=old n' b1 h2
 exact hH.inj n n' q1 q2 j g1 g2 e1 e2):p:=h
theorem qf9{p:Prop} (h:p:=by 
 intro A_last I_last
 conv=>whnf
 repeat (refine LookP.mk _ rfl ?_;conv=>whnf)
 intro t ht
 cases t
 rotate_left
 ·exact qbh
 conv=>whnf
 skip
 refine N_i _ ?_ ?_
 ·exact qbj
 ·exact qf3):p:=h
theorem qga{p:Prop} (h:p:=by 
 intro A_last I_last
 conv=>whnf
 repeat (refine LookP.mk _ rfl ?_;conv=>whnf)
 intro t ht
 cases t
 rotate_left
 ·exact qbh
 conv=>whnf
 repeat' first|((first|refine LookP.mk _ rfl ?_|refine ShlP.mk _ qaa ?_|refine HpP.force ?_);conv=>whnf)
 exact fin rfl):p:=h
theorem qgb{p:Prop} (h:p:=by 
 rw[zad _ _ e]at h
 obtain⟨hU,hB⟩:=hH.blk n b h
 refine⟨hU,zbs hH ht hU hB fun j hj=>⟨World.putObj_heap_other (fun ej=>e ?_),fun hro=>hH.ro_apart hro n b h hj⟩⟩
 exact hH.inj n nm b b0 k h hg (ej ▸ hj) hb):p:=h
theorem qgc{p:Prop} (h:p:=by 
 rw[hov]
 refine⟨fun n b h=>?_,fun n n' b b' k h1 h2 e1 e2=>?_,hH.ro,hH.glob⟩
 ·by_cases en:n=nm
  ·subst en;rw[zaf]at h;cases h;exact hH.blk n _ hg
  ·rw[zad _ _ en]at h;exact hH.blk n b h
 ·have old:∀ n b,AHeap.get ((nm,some (.arr S els))::st.heap) n=some b->st.heap.get n=some b:=fun n b h=>by
   by_cases en:n=nm
   ·exact qfn
   ·rw[zad _ _ en]at h;exact h
  exact hH.inj n n' b b' k (old n b h1) (old n' b' h2) e1 e2):p:=h
theorem qgd{p:Prop} (h:p:=by 
 have h0:∀ m,C.U m->False:=fun m hm=>by have:=hU m hm;omega
 refine{ os:=hT.os,tape:=hT.tape,output:=hT.output,size:=hT.size,shape:=hT.shape,frame:=hT.frame,names:=fun m hm=>(h0 m hm).elim,ros:=fun k hk=>.inl (hT.ros k hk),img:=fun nm b k h=>qed,rob:=fun k hk hlt=>?_ }
 rcases hk with hk|⟨nm,b,hg,hb⟩
 ·exact hT.rob k hk hlt
 ·exact .inr (hT.img nm b k hg hb hlt)):p:=h
theorem qge{p:Prop} (h:p:=by 
 have hlt:j<k:=by omega
 obtain⟨oj,hoj⟩:=zm5 (ops:=ops) hm (i:=j) qad
 obtain⟨he2,g1,g2,_,_⟩:=hR.ok j oj qad hoj
 rw[hEj]at g1;cases g1
 cases g2 with
 | go he2 need hg hhi hkeys hn hrd hw hext =>
  have h1:=(hw q' hq').1
  have h2:=(hok.range.2 _ (get_mem q)).1
  have h3:=zgc hR hm k j qad qad
  simp only at h2
  omega
 | no hg=>cases hq'):p:=h
theorem qgf{p:Prop} (h:p:=by 
 simp only[actC,gC,gE,gL,gQ,phE]
 have hx:xv (v^^^cd (v.testBit a) (2^(12+a)))=xv v:=by rw[zcw,zr7,Nat.xor_zero]
 rw[hx,zdd,zdd]
 have hr:r.testBit a=((r^^^xv v).testBit a != v.testBit a):=qa9
 rw[hr]
 generalize r^^^xv v=m
 refine zhh ?_ _
 rw[zbq,zew,zft ha]
 cases bt v m<;>cases m.testBit a<;>cases v.testBit a<;>simp<;>omega):p:=h
theorem qgg{p:Prop} (h:p:=by 
 rintro v H m ⟨rfl,h2,h3⟩
 refine⟨.d (.tup [iD 1,iD 0]),[(2,some (wkF w 12 F)),(12,some (dblk 4 ((redRows (rowsL w (prjF rf (zP w n o) a0 R)) (2*w)).map Ps.l)))],13,?_,rfl,rfl,rfl,rfl⟩
 first|refine zav [(2,2),(12,24)] ?_ ?_ ?_ trivial|refine zap [(2,2),(12,24)] rfl rfl ?_ ?_ ?_ trivial
 ·exact qae
 ·exact qbd
 ·exact qaf):p:=h
theorem qgh{p:Prop} (h:p:=by 
 intro a b hab
 rw[zaj]at hab
 by_cases ea:a=n0
 ·exact qb2
 ·exact qc0):p:=h
theorem qgi{p:Prop} (h:p:=by 
 obtain⟨f1,f2⟩:=old n b1 a1 en
 rw[hβ n en]at e1
 by_cases en':n'=nm'
 ·rw[en',hb']at e2;cases e2
  exact absurd (hH.inj n nm b1 _ k f2 hg e1 hb) f1
 ·obtain⟨f3,f4⟩:=old n' b2 a2 en'
  rw[hβ n' en']at e2
  exact hH.inj n n' b1 b2 j f2 f4 e1 e2):p:=h
theorem qgj{p:Prop} (h:p:=by 
 refine zc6 ?_ ?_
 ·simp only[gE,gQ,gL,emul,Nat.testBit_xor,zbq,zbp,zew,zgj,zhe ha,zft ha,zdx ha,zi4,Nat.testBit_two_pow]
  cases v.testBit a<;>cases u.testBit a<;>cases bt v u<;>simp<;>omega
 ·simp only[gE,gL,emul,Nat.testBit_xor,zgi]
  ac_rfl):p:=h
theorem qgk{p:Prop} (h:p:=by 
 intro A_last I_last
 conv=>whnf
 repeat' first|((first|refine LookP.mk _ rfl ?_|refine ShlP.mk _ qaa ?_|refine And.intro qbi ?_|refine HpP.force ?_);conv=>whnf)|(intro t ht;cases t<;>conv=>whnf)
 ·rw[List.take_length];exact fin rfl
 ·exact qea):p:=h
theorem qgl{p:Prop} (h:p:=by 
 rw[if_neg e4]at hg
 refine .inr ⟨?_,hg⟩
 rw[zaj,zaj,if_neg e2,if_neg e4];rfl):p:=h
theorem qgm{p:Prop} (h:p:=by 
 rintro v H1 n ⟨d,st',nx',h1,h2,rfl,rfl,rfl⟩
 refine⟨_,fun m b hm=>?_,hk d st' nx' h1 h2⟩
 rw[zaj]at hm
 by_cases e:m=0
 ·exact qb7
 ·rw[if_neg e]at hm
  right
  exact⟨by rw[zaj,if_neg e];rfl,hm⟩):p:=h
theorem qgn{p:Prop} (h:p:=by 
 conv=>whnf
 rcases h with rfl|⟨rfl,rfl⟩
 all_goals
  repeat' first|((first|refine ze4 hM (Nat.le_refl 12) rfl rfl ?_|refine zfh ?_|refine zi6 rfl ?_);conv=>whnf)
  exact fin ⟨rfl,rfl,rfl⟩):p:=h
theorem qgo{p:Prop} (h:p:=by 
 by_cases en':n'=nm'
 ·rw[en,en']
 ·obtain⟨f1,f2⟩:=old n' b2 a2 en'
  rw[hβ n' en']at e2
  rw[en,hb']at e1;cases e1
  exact absurd (hH.inj n' nm b2 _ k f2 hg e2 hb) f1):p:=h
theorem qgp{p:Prop} (h:p:=by 
 rw[hov]
 refine{ Tr.refl (fun _ h=>h) with img:=fun n b k h1 h2 _=>?_ }
 by_cases en:n=nm
 ·subst en;exact⟨n,_,hg,h2⟩
 ·rw[zad _ _ en]at h1;exact⟨n,b,h1,h2⟩):p:=h
theorem qgq{p:Prop} (h:p:=by 
 simp only
 rcases h3 q hq with q'|q'
 ·exact qd5
 ·exact qad):p:=h
theorem qgr{p:Prop} (h:p:=by 
 obtain⟨b',hb'⟩:=zvz (w:=w) (b:=b) (gs:=gs) (gt:=gt) (wa:=wa) (wt:=wt) (R:=R) (M:=M') (L:=lpY E0Y s p) q
 rw[zei hb']at hm
 exact .inl (hm ▸ hb')):p:=h
theorem qgs{p:Prop} (h:p:=by 
 intro A_last I_last
 conv=>whnf
 repeat (refine LookP.mk _ rfl ?_;conv=>whnf)
 intro t ht
 cases t
 rotate_left
 ·exact qbh
 conv=>whnf
 skip
 exact fin ⟨rfl,rfl⟩):p:=h
theorem qgt{p:Prop} (h:p:=by 
 refine fin (.inl ⟨rfl,?_⟩)
 cases es with
 | nil=>rfl
 | cons a l=>simp at ht):p:=h
theorem qgu{p:Prop} (h:p:=by 
 refine N_i _ ?_ ?_
 ·exact zic h_i ht I_i
 ·exact qf3):p:=h
theorem qgv{p:Prop} (h:p:=by 
 refine zac qac ?_ ?_ trivial
 ·exact qaw
 ·exact qak):p:=h
theorem qgw{p:Prop} (h:p:=by 
 refine zac qac ?_ ?_ trivial
 ·exact qae
 ·exact qan):p:=h
theorem qgx{p:Prop} (h:p:=by 
 refine zac qac ?_ ?_ trivial
 ·exact qa2
 ·exact qab):p:=h
theorem qgy{p:Prop} (h:p:=by 
 exfalso
 rcases zk2 hk (zcl hst.good k2) k3.symm with q|q
 ·rw[q]at a;exact a k2
 ·rw[q,zwc (zcl hst.good k2).1]at b;exact b k2):p:=h
theorem qgz{p:Prop} (h:p:=by 
 have:=h.min k hs
 show o / 2^n<=k / 2^n
 rw[div2 o,div2 k,hz0]
 have h3:o / 2^(n+1)<=k / 2^(n+1):=this
 have:false.toNat=0:=rfl
 omega):p:=h
theorem qg0{p:Prop} (h:p:=by 
 rw[if_neg h,if_neg h]
 by_cases hr:j∈R
 ·rw[if_pos hr,if_pos ((hRm j).1 hr)]
 ·rw[if_neg hr,if_neg fun q=>hr ((hRm j).2 q)]):p:=h
theorem qg1{p:Prop} (h:p:=by 
 first|refine zav [(10,12)] ?_ ?_ ?_ trivial|refine zap [(10,12)] rfl rfl ?_ ?_ ?_ trivial
 ·exact qaw
 ·exact qbv
 ·exact qaf):p:=h
theorem qg2{p:Prop} (h:p:=by 
 show((_:Nat):Int)=((_:Nat):Int)
 rw[zkt,Nat.testBit_xor]
 simp only[lt23]
 cases Z.testBit k<;>cases Z'.testBit k<;>simp):p:=h
theorem qg3{p:Prop} (h:p:=by 
 show((_:Nat):Int)=((_:Nat):Int)
 rw[zkt,Nat.testBit_xor]
 simp only[lt12]
 cases X.testBit k<;>cases X'.testBit k<;>simp):p:=h
theorem qg4{p:Prop} (h:p:=by 
 obtain⟨X,M,x1,x2,x3,x4,x5⟩:=hS.z.mp h0
 exact⟨X,M,x1,x2,(zan _ _ qag).trans x3,x4,by rw[zep (zvs qex)];exact x5⟩):p:=h
theorem qg5{p:Prop} (h:p:=by 
 first|refine zav [(3,12)] ?_ ?_ ?_ trivial|refine zap [(3,12)] rfl rfl ?_ ?_ ?_ trivial
 ·exact qa3
 ·exact qax
 ·exact qaf):p:=h
theorem qg6{p:Prop} (h:p:=by 
 first|refine zav [(3,6)] ?_ ?_ ?_ trivial|refine zap [(3,6)] rfl rfl ?_ ?_ ?_ trivial
 ·exact qai
 ·exact qa7
 ·exact qaf):p:=h
theorem qg7{p:Prop} (h:p:=by 
 first|refine zav [(3,3)] ?_ ?_ ?_ trivial|refine zap [(3,3)] rfl rfl ?_ ?_ ?_ trivial
 ·exact qa3
 ·exact qax
 ·exact qaf):p:=h
theorem qg8{p:Prop} (h:p:=by 
 rintro v H1 n ⟨M',h1,rfl,rfl⟩
 obtain⟨R,s,p,hR,e⟩:=zij w b gs gt wa wt M'
 rw[e]
 exact⟨rfl,znu (zo9 hR)⟩):p:=h
theorem qg9{p:Prop} (h:p:=by 
 refine fin (.inr ⟨by simp,?_,rfl⟩)
 simp[chunk,AHeap.get]):p:=h
theorem qha{p:Prop} (h:p:=by 
 rw[hR.defers]
 exact(zbt h2 hR.marks).symm):p:=h
theorem qhb{p:Prop} (h:p:=by 
 rw[zaj,zaj]at hg
 by_cases e2:m=2
 ·exact qdm
 ·rw[if_neg e2]at hg
  by_cases e3:m=10
  ·exact qdn
  ·exact qfl):p:=h
theorem qhc{p:Prop} (h:p:=by 
 rw[zaj,zaj]at hg
 by_cases e2:m=2
 ·exact qdm
 ·rw[if_neg e2]at hg
  by_cases e3:m=3
  ·exact qdn
  ·exact qfl):p:=h
theorem qhd{p:Prop} (h:p:=by 
 intro n b h
 by_cases e:n=nm
 ·subst e;rw[zaf]at h;cases h
  exact⟨(hH.blk n b0 hg).1,hb' ht⟩
 ·exact qgb):p:=h
theorem qhe{p:Prop} (h:p:=by 
 rcases e6 m hm with h|h
 ·have:=hU m h;omega
 ·exact qad):p:=h
theorem qhf{p:Prop} (h:p:=by 
 rintro⟨h1,h2,h3⟩
 rcases List.mem_cons.1 (hm.2 ⟨h1,h3⟩) with q|q
 ·exact absurd q h2
 ·exact q):p:=h
theorem qhg{p:Prop} (h:p:=by 
 simp only[execOp,ho,Instr.sliceAt,Instr.slice,hxv]
 simp[run_underlying hT.1,hk,EOk.size hT.2,zb2]):p:=h
theorem qhh{p:Prop} (h:p:=by 
 subst h2
 rw[if_pos qad,if_pos qad,List.getElem?_set_self (by rw[Array.length_toList];omega)]
 simp):p:=h
theorem qhi{p:Prop} (h:p:=by 
 intro j h1 h2
 have h3:j<l.length:=qcz
 simp[List.getD_eq_getElem?_getD,List.getElem?_eq_getElem h3]):p:=h
theorem qhj{p:Prop} (h:p:=by 
 conv=>whnf
 skip
 exact fin ⟨M,I1,rfl,fun m bl hm=>by unfold postY at hm;rw[hdd]at hm;exact hm⟩):p:=h
theorem qhk{p:Prop} (h:p:=by 
 refine fin ?_
 have ho:offB w 1 12=true:=by unfold offB;rw[ht];simp
 unfold chkS
 rw[ho,if_pos rfl]):p:=h
theorem qhl{p:Prop} (h:p:=by 
 rcases hk with hk|⟨nm,b,hg,hb⟩
 ·exact hH'.ro k hk
 ·exact zc8 (C:=C') (hH'.blk nm b hg).2 hb):p:=h
theorem qhm{p:Prop} (h:p:=by 
 refine zac qac ?_ ?_ trivial
 ·exact qba
 ·exact qan):p:=h
theorem qhn{p:Prop} (h:p:=by 
 refine zac qac ?_ ?_ trivial
 ·exact qav
 ·exact qak):p:=h
theorem qho{p:Prop} (h:p:=by 
 refine zac qac ?_ ?_ trivial
 ·exact qae
 ·exact qau):p:=h
theorem qhp{p:Prop} (h:p:=by 
 intro h
 have:=hm.1 (List.mem_cons_of_mem _ h)
 exact⟨this.1,fun q=>haR (q ▸ h),this.2⟩):p:=h
theorem qhq{p:Prop} (h:p:=by 
 rename_i t ht
 rw[hguard j w t q ht]
 simp only[Option.some.injEq]at hg
 simpa using hg):p:=h
theorem qhr{p:Prop} (h:p:=by 
 refine N_i _ ?_ ?_
 ·exact qbj
 ·refine zac qac ?_ ?_ trivial
  ·exact qai
  ·exact qcm):p:=h
theorem qhs{p:Prop} (h:p:=by 
 refine fin ?_
 rw[zfc h_i ht I_i]):p:=h
theorem qht{p:Prop} (h:p:=by 
 rw[if_neg b,List.getElem?_eq_none (show l.length<=q-1 by omega)]at hq
 cases hq):p:=h
theorem qhu{p:Prop} (h:p:=by 
 rw[if_pos (by simp_all[mB])]at N_i
 refine N_i _ ?_ ?_
 ·exact qbj
 ·exact qf3):p:=h
end Go
