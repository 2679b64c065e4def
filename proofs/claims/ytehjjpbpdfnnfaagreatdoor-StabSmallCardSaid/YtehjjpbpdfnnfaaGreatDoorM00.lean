import Derived.KernelRfl
/-! Tactics that close a goal, by name. -/
namespace Go
theorem aJ:type_of% @And.intro:=@And.intro
theorem bm:type_of% @List.mem_map:=@List.mem_map
theorem ew:type_of% @List.getElem?_eq_getElem:=@List.getElem?_eq_getElem
theorem cJ:type_of% @List.mem_range:=@List.mem_range
theorem eJ:type_of% @List.mem_cons_of_mem:=@List.mem_cons_of_mem
theorem waf:type_of% @Nat.eq_of_beq_eq_true:=@Nat.eq_of_beq_eq_true
theorem jI:type_of% @List.getD_eq_getElem?_getD:=@List.getD_eq_getElem?_getD
theorem cF:type_of% @Nat.le_refl:=@Nat.le_refl
theorem ey:type_of% @List.getElem_mem:=@List.getElem_mem
theorem ef:type_of% @List.length_map:=@List.length_map
theorem gx:type_of% @Int.toNat_natCast:=@Int.toNat_natCast
theorem js:type_of% @Nat.pow_le_pow_right:=@Nat.pow_le_pow_right
theorem ft:type_of% @List.mem_append:=@List.mem_append
theorem nt:type_of% @List.getElem?_eq_some_iff:=@List.getElem?_eq_some_iff
theorem gy:type_of% @Nat.testBit_xor:=@Nat.testBit_xor
theorem dW:type_of% @Nat.zero_le:=@Nat.zero_le
theorem ll:type_of% @Nat.testBit_two_pow:=@Nat.testBit_two_pow
theorem nA:type_of% @Nat.le_of_ble_eq_true:=@Nat.le_of_ble_eq_true
theorem mb:type_of% @List.mem_singleton:=@List.mem_singleton
theorem mf:type_of% @Int.natCast_nonneg:=@Int.natCast_nonneg
theorem pT:type_of% @List.take_of_length_le:=@List.take_of_length_le
theorem ku:type_of% @Option.some.inj:=@Option.some.inj
theorem lh:type_of% @List.all_eq_true:=@List.all_eq_true
theorem li:type_of% @Bool.and_eq_true:=@Bool.and_eq_true
theorem mV:type_of% @List.getElem?_map:=@List.getElem?_map
theorem jJ:type_of% @List.mem_cons:=@List.mem_cons
theorem pn:type_of% @Nat.xor_lt_two_pow:=@Nat.xor_lt_two_pow
theorem wa1:type_of% @Nat.lt_or_ge:=@Nat.lt_or_ge
theorem tT:type_of% @Option.map_eq_some_iff:=@Option.map_eq_some_iff
theorem jj:type_of% @Nat.zero_add:=@Nat.zero_add
theorem nh:type_of% @List.map_append:=@List.map_append
theorem pS:type_of% @List.take_length:=@List.take_length
theorem sF:type_of% @List.mem_cons_self:=@List.mem_cons_self
theorem BU:type_of% @Array.getElem?_eq_some_iff:=@Array.getElem?_eq_some_iff
theorem xW:type_of% @Array.mem_of_getElem?:=@Array.mem_of_getElem?
theorem tU:type_of% @Option.some.injEq:=@Option.some.injEq
theorem nB:type_of% @List.map_cons:=@List.map_cons
theorem uU:type_of% @Nat.lt_of_lt_of_le:=@Nat.lt_of_lt_of_le
theorem ye:type_of% @List.mem_of_getElem?:=@List.mem_of_getElem?
theorem xX:type_of% @List.map_congr_left:=@List.map_congr_left
theorem sk:type_of% @Nat.two_pow_pos:=@Nat.two_pow_pos
theorem py:type_of% @Nat.xor_assoc:=@Nat.xor_assoc
theorem Fp:type_of% @Classical.byContradiction:=@Classical.byContradiction
theorem tV:type_of% @Bool.eq_iff_iff:=@Bool.eq_iff_iff
theorem JT:type_of% @Array.getD_eq_getD_getElem?:=@Array.getD_eq_getD_getElem?
theorem uV:type_of% @List.nil_append:=@List.nil_append
theorem pU:type_of% @List.map_map:=@List.map_map
theorem Ci:type_of% @List.mem_of_mem_take:=@List.mem_of_mem_take
theorem yf:type_of% @List.cons_append:=@List.cons_append
theorem yF:type_of% @List.any_eq_true:=@List.any_eq_true
theorem BX:type_of% @List.any_eq_false:=@List.any_eq_false
theorem Fq:type_of% @Nat.pow_lt_pow_right:=@Nat.pow_lt_pow_right
theorem Fs:type_of% @Nat.eq_of_testBit_eq:=@Nat.eq_of_testBit_eq
theorem Fb:type_of% @List.getElem?_take:=@List.getElem?_take
theorem LL:type_of% @Nat.shiftRight_eq_div_pow:=@Nat.shiftRight_eq_div_pow
theorem BZ:type_of% @List.length_take:=@List.length_take
theorem zG:type_of% @Bool.or_eq_true:=@Bool.or_eq_true
theorem Uu:type_of% @Nat.testBit_eq_decide_div_mod_eq:=@Nat.testBit_eq_decide_div_mod_eq
theorem Cj:type_of% @Nat.zero_testBit:=@Nat.zero_testBit
theorem Ck:type_of% @Nat.lt_succ_self:=@Nat.lt_succ_self
theorem JU:type_of% @Nat.mul_le_mul_right:=@Nat.mul_le_mul_right
theorem LM:type_of% @Nat.testBit_lt_two_pow:=@Nat.testBit_lt_two_pow
theorem QE:type_of% @List.length_eq_zero_iff:=@List.length_eq_zero_iff
theorem Fa:type_of% @List.range_succ:=@List.range_succ
theorem JS:type_of% @Nat.lt_of_le_of_lt:=@Nat.lt_of_le_of_lt
theorem QW:type_of% @List.mem_take_iff_getElem:=@List.mem_take_iff_getElem
theorem yE:type_of% @Nat.xor_self:=@Nat.xor_self
theorem Hw:type_of% @Option.getD_some:=@Option.getD_some
theorem Hx:type_of% @List.ext_getElem:=@List.ext_getElem
theorem Fo:type_of% @Nat.testBit_and:=@Nat.testBit_and
theorem zF:type_of% @Nat.xor_zero:=@Nat.xor_zero
theorem QX:type_of% @Nat.testBit_mod_two_pow:=@Nat.testBit_mod_two_pow
theorem Cl:type_of% @Prod.mk.injEq:=@Prod.mk.injEq
theorem Lm:type_of% @List.foldl_append:=@List.foldl_append
theorem LN:type_of% @List.length_append:=@List.length_append
theorem Ux:type_of% @List.eq_of_mem_replicate:=@List.eq_of_mem_replicate
theorem VU:type_of% @Nat.two_pow_add_eq_or_of_lt:=@Nat.two_pow_add_eq_or_of_lt
theorem Ln:type_of% @List.length_cons:=@List.length_cons
theorem VV:type_of% @List.getElem?_append_right:=@List.getElem?_append_right
theorem VW:type_of% @Int.tmod_eq_emod_of_nonneg:=@Int.tmod_eq_emod_of_nonneg
theorem VX:type_of% @List.getElem?_append_left:=@List.getElem?_append_left
theorem QG:type_of% @List.find?_eq_none:=@List.find?_eq_none
theorem JV:type_of% @List.append_eq:=@List.append_eq
theorem QY:type_of% @List.countP_append:=@List.countP_append
theorem QZ:type_of% @Bool.false_eq_true:=@Bool.false_eq_true
theorem LP:type_of% @Option.map_some:=@Option.map_some
theorem Hy:type_of% @Nat.xor_comm:=@Nat.xor_comm
theorem Cm:type_of% @Nat.mod_lt:=@Nat.mod_lt
theorem Uy:type_of% @List.getElem_of_mem:=@List.getElem_of_mem
theorem Ra:type_of% @Nat.lt_trichotomy:=@Nat.lt_trichotomy
theorem LQ:type_of% @List.drop_zero:=@List.drop_zero
theorem Rb:type_of% @List.getElem_map:=@List.getElem_map
theorem Lo:type_of% @Nat.zero_xor:=@Nat.zero_xor
theorem Lp:type_of% @Nat.succ_mul:=@Nat.succ_mul
theorem Lq:type_of% @Nat.add_zero:=@Nat.add_zero
theorem Rc:type_of% @Nat.and_le_left:=@Nat.and_le_left
theorem I6:type_of% @Nat.lt_pow_two_of_testBit:=@Nat.lt_pow_two_of_testBit
theorem Uz:type_of% @Nat.mod_eq_of_lt:=@Nat.mod_eq_of_lt
theorem VS:type_of% @List.flatten_cons:=@List.flatten_cons
theorem I3:type_of% @List.all_eq_not_any_not:=@List.all_eq_not_any_not
theorem Uv:type_of% @Nat.min_eq_left:=@Nat.min_eq_left
theorem QF:type_of% @List.map_nil:=@List.map_nil
theorem wc4:type_of% @Nat.testBit_two_pow_mul_add:=@Nat.testBit_two_pow_mul_add
theorem VT:type_of% @List.mem_reverse:=@List.mem_reverse
theorem Uw:type_of% @Bool.and_false:=@Bool.and_false
theorem I4:type_of% @List.length_replicate:=@List.length_replicate
theorem I5:type_of% @List.length_filter_le:=@List.length_filter_le
theorem wc9:type_of% @List.drop_eq_getElem_cons:=@List.drop_eq_getElem_cons
theorem VY:type_of% @List.mem_filter:=@List.mem_filter
theorem VZ:type_of% @List.foldl_cons:=@List.foldl_cons
theorem QH:type_of% @Nat.add_mul:=@Nat.add_mul
theorem Rd:type_of% @Nat.pow_succ:=@Nat.pow_succ
theorem I8:type_of% @List.pairwise_append:=@List.pairwise_append
theorem I9:type_of% @List.getElem?_set_ne:=@List.getElem?_set_ne
theorem wdg:type_of% @Option.isSome_iff_exists:=@Option.isSome_iff_exists
theorem wdh:type_of% @List.find?_range_eq_some:=@List.find?_range_eq_some
theorem wdi:type_of% @List.eq_nil_of_length_eq_zero:=@List.eq_nil_of_length_eq_zero
theorem J1:type_of% @Nat.and_lt_two_pow:=@Nat.and_lt_two_pow
theorem J2:type_of% @List.pairwise_cons:=@List.pairwise_cons
theorem wdl:type_of% @Array.getElem?_setIfInBounds:=@Array.getElem?_setIfInBounds
theorem Wa:type_of% @Nat.add_assoc:=@Nat.add_assoc
theorem wdn:type_of% @List.getElem?_eq_none:=@List.getElem?_eq_none
theorem wdo:type_of% @List.countP_singleton:=@List.countP_singleton
theorem wdp:type_of% @List.countP_le_length:=@List.countP_le_length
theorem J4:type_of% @List.length_range:=@List.length_range
theorem UA:type_of% @Nat.mul_one:=@Nat.mul_one
theorem wds:type_of% @List.mem_of_mem_drop:=@List.mem_of_mem_drop
theorem wdt:type_of% @Bool.or_eq_false_iff:=@Bool.or_eq_false_iff
theorem wdu:type_of% @Array.getElem?_append_left:=@Array.getElem?_append_left
theorem Wb:type_of% @Nat.sub_zero:=@Nat.sub_zero
theorem Wc:type_of% @Nat.sub_self:=@Nat.sub_self
theorem Wd:type_of% @Nat.mul_comm:=@Nat.mul_comm
theorem wdy:type_of% @Array.getElem?_eq_getElem:=@Array.getElem?_eq_getElem
theorem wdz:type_of% @List.length_reverse:=@List.length_reverse
theorem wd0:type_of% @Array.length_toList:=@Array.length_toList
theorem D9:type_of% @Nat.lt_irrefl:=@Nat.lt_irrefl
theorem E0:type_of% @List.map_take:=@List.map_take
theorem wd3:type_of% @Nat.testBit_two_pow_self:=@Nat.testBit_two_pow_self
theorem I7:type_of% @List.nodup_cons:=@List.nodup_cons
theorem wd5:type_of% @List.getElem_range:=@List.getElem_range
theorem wd6:type_of% @List.findIdx?_cons:=@List.findIdx?_cons
theorem wd7:type_of% @List.filter_append:=@List.filter_append
theorem wd8:type_of% @Nat.testBit_div_two_pow:=@Nat.testBit_div_two_pow
theorem wd9:type_of% @List.getElem_drop:=@List.getElem_drop
theorem wea:type_of% @List.ext_getElem?:=@List.ext_getElem?
theorem web:type_of% @Bool.not_eq_true':=@Bool.not_eq_true'
theorem wec:type_of% @Nat.shiftLeft_eq:=@Nat.shiftLeft_eq
theorem E1:type_of% @Nat.mod_one:=@Nat.mod_one
theorem QI:type_of% @Iff.rfl:=@Iff.rfl
theorem aK{p:Prop}(h:p:=by first|(simp only[List.set,bU,List.take,List.drop,JV,uV,yf,List.length];rfl)|rfl):p:=h
theorem lZ{p:Prop}(h:p:=by repeat' first|exact trivial|refine⟨⟨di rfl,_,rfl,by first|rfl|assumption,by first|exact ay rfl|exact aj _ _ _|exact au rfl⟩,?_⟩):p:=h
theorem cW{p:Prop}(h:p:=by first|exact dW _|exact nA rfl):p:=h
theorem qad{p:Prop}(h:p:=by omega):p:=h
theorem iI{p:Prop}(h:p:=by repeat' first|exact trivial|(refine aJ ?_ ?_)|(exact fun _=>rfl)|(exact fun h=>absurd h (Nat.ne_of_beq_eq_false rfl))):p:=h
theorem gn{p:Prop}(h:p:=by repeat' first|exact trivial|refine⟨⟨by first|rfl|assumption,rfl⟩,?_⟩):p:=h
theorem ar{p:Prop}(h:p:=by kernel_rfl):p:=h
theorem Ch{p:Prop}(h:p:=by repeat' first|exact trivial|refine⟨⟨by first|rfl|assumption|exact congrArg (fun n=>AV.d (iD n)) e_i,rfl⟩,?_⟩):p:=h
theorem ZY{p:Prop}(h:p:=by repeat' first|exact trivial|refine⟨⟨di rfl,_,rfl,by first|rfl|assumption|exact aw rfl (by first|rfl|assumption|exact aw rfl (by rw[hsn];exact congrArg some (dc rfl)))|exact aw rfl (by rw[hsn];exact congrArg some (dc rfl)),by first|exact ay rfl|exact aj _ _ _|exact au rfl⟩,?_⟩):p:=h
theorem qaj{p:Prop}(h:p:=by decide):p:=h
theorem VB{p:Prop}(h:p:=by repeat' first|exact trivial|refine⟨⟨di rfl,_,rfl,by first|rfl|assumption,by first|exact ay rfl|exact aj _ _ _|exact au rfl|exact trivial|exact⟨rfl,nA rfl⟩⟩,?_⟩):p:=h
theorem Jz{p:Prop}(h:p:=by repeat' first|exact trivial|refine⟨⟨by first|rfl|assumption|exact congrArg (fun n=>AV.d (iD n)) e_k,rfl⟩,?_⟩):p:=h
theorem ZZ{p:Prop}(h:p:=by repeat' first|exact trivial|refine⟨⟨di rfl,_,rfl,by first|rfl|assumption|exact aw rfl (by first|rfl|assumption|exact aw rfl h2)|exact aw rfl h2,by first|exact ay rfl|exact aj _ _ _|exact au rfl⟩,?_⟩):p:=h
theorem bX{p:Prop}(h:p:=by exact(ok.h_bad h).elim):p:=h
theorem fI{p:Prop}(h:p:=by simp[ho,Op.operands]):p:=h
theorem A0{p:Prop}(h:p:=by first|rfl|exact kG (hrR _) (by simp[hRl,hZl])|exact ja (hrR _) (by simp[hRl,hZl])|exact kG (hrZ _) (by simp[hRl,hZl])|exact ja (hrZ _) (by simp[hRl,hZl])):p:=h
theorem F8{p:Prop}(h:p:=by repeat' first|exact trivial|refine⟨⟨di rfl,_,rfl,by first|rfl|assumption|exact aw rfl (by first|rfl|assumption|exact aw rfl h3|exact aw rfl h2)|exact aw rfl h3|exact aw rfl h2,by first|exact ay rfl|exact aj _ _ _|exact au rfl⟩,?_⟩):p:=h
theorem qar{p:Prop}(h:p:=by repeat' first|exact trivial|refine⟨⟨by first|rfl|assumption|exact congrArg (fun n=>AV.d (iD n)) e_j,rfl⟩,?_⟩):p:=h
theorem VC{p:Prop}(h:p:=by repeat' first|exact trivial|refine⟨⟨di rfl,_,rfl,by first|rfl|assumption|(rw[hnx];rfl),by first|exact ay rfl|exact aj _ _ _|exact au rfl⟩,?_⟩):p:=h
theorem qat{p:Prop}(h:p:=by repeat' first|exact trivial|refine⟨⟨di rfl,_,rfl,by first|rfl|assumption|exact aw rfl (by first|rfl|assumption|exact aw rfl (by rw[hvs];exact congrArg some (dc rfl)))|exact aw rfl (by rw[hvs];exact congrArg some (dc rfl)),by first|exact ay rfl|exact aj _ _ _|exact au rfl⟩,?_⟩):p:=h
theorem qau{p:Prop}(h:p:=by repeat' first|exact trivial|refine⟨⟨di rfl,_,rfl,by first|rfl|assumption|exact aw rfl (by first|rfl|assumption),by first|exact ay rfl|exact aj _ _ _|exact au rfl⟩,?_⟩):p:=h
theorem F9{p:Prop}(h:p:=by repeat' first|exact trivial|(refine⟨⟨⟨Nat.ne_of_beq_eq_false rfl,Nat.ne_of_beq_eq_false rfl,nA rfl⟩,by first|exact aj _ _ _|exact ay rfl⟩,?_⟩)):p:=h
theorem qaw{p:Prop}(h:p:=by repeat' first|exact trivial|refine⟨⟨di rfl,_,rfl,by first|rfl|assumption|exact aw rfl (by first|rfl|assumption|exact aw rfl hg)|exact aw rfl hg,by first|exact ay rfl|exact aj _ _ _|exact au rfl⟩,?_⟩):p:=h
theorem G0{p:Prop}(h:p:=by repeat' first|exact trivial|(refine⟨⟨by first|exact .inl (nA rfl)|exact .inr ⟨nA rfl,nA rfl⟩,rfl⟩,?_⟩)):p:=h
theorem qay{p:Prop}(h:p:=by repeat' first|exact trivial|refine⟨⟨by first|rfl|assumption|exact congrArg (fun n=>AV.d (iD n)) e_i|(rw[hs];rfl),rfl⟩,?_⟩):p:=h
theorem qaz{p:Prop}(h:p:=by repeat' first|exact trivial|refine⟨⟨by first|rfl|assumption|exact congrArg (fun n=>AV.d (iD n)) e_j|exact congrArg (fun n=>AV.d (iD n)) hix.symm,rfl⟩,?_⟩):p:=h
theorem F7{p:Prop}(h:p:=by repeat' first|exact trivial|refine⟨⟨by first|rfl|assumption|exact congrArg (fun n=>AV.d (iD n)) e_n,rfl⟩,?_⟩):p:=h
theorem qa1{p:Prop}(h:p:=by repeat' first|exact trivial|refine⟨⟨by first|rfl|assumption|exact congrArg (fun n=>AV.d (iD n)) e_i|exact congrArg (fun n=>AV.d (iD n)) hk2,rfl⟩,?_⟩):p:=h
theorem qa2{p:Prop}(h:p:=by repeat' first|exact trivial|refine⟨⟨di rfl,_,rfl,by first|rfl|assumption|exact congrArg some (ee hsame),by first|exact ay rfl|exact aj _ _ _|exact au rfl|exact trivial|exact⟨rfl,nA rfl⟩⟩,?_⟩):p:=h
theorem qa3{p:Prop}(h:p:=by repeat' first|exact trivial|refine⟨⟨di rfl,_,rfl,by first|rfl|assumption|exact aw rfl (by first|rfl|assumption|exact aw rfl (show some (Blk.ren _ (ap 4 _))=_ from by rw[aE]))|exact aw rfl (show some (Blk.ren _ (ap 4 _))=_ from by rw[aE]),by first|exact ay rfl|exact aj _ _ _|exact au rfl⟩,?_⟩):p:=h
theorem VA{p:Prop}(h:p:=by first|rfl|exact kG (hrZ _) (by simp[hRl,hZl])|exact ja (hrZ _) (by simp[hRl,hZl])):p:=h
theorem nb{p:Prop}(h:p:=by simpa using ht):p:=h
theorem LC{p:Prop}(h:p:=by repeat' first|exact trivial|(refine⟨rfl,?_⟩)):p:=h
theorem qa7{p:Prop}(h:p:=by repeat' first|exact trivial|refine⟨⟨by first|rfl|assumption|exact congrArg (fun n=>AV.d (iD n)) e_m,rfl⟩,?_⟩):p:=h
theorem qa8{p:Prop}(h:p:=by first|rfl|exact kG (hrR _) (by simp[hlR])|exact ja (hrR _) (by simp[hlR])|exact kG (hrR2 _) (by simp[hlR2])|exact ja (hrR2 _) (by simp[hlR2])):p:=h
theorem qa9{p:Prop}(h:p:=by repeat' first|exact trivial|refine⟨⟨di rfl,_,rfl,by first|rfl|assumption|(rw[e];rfl),by first|exact ay rfl|exact aj _ _ _|exact au rfl⟩,?_⟩):p:=h
theorem qba{p:Prop}(h:p:=by repeat' first|exact trivial|refine⟨⟨by first|rfl|assumption|exact congrArg (fun n=>AV.d (iD n)) e_i|exact congrArg (fun n=>AV.d (iD n)) q.symm,rfl⟩,?_⟩):p:=h
theorem zt{p:Prop}(h:p:=by rw[gN];exact hC):p:=h
theorem qbc{p:Prop}(h:p:=by repeat' first|exact trivial|refine⟨⟨by first|rfl|assumption|exact congrArg (fun n=>AV.d (iD n)) e_i|exact congrArg (fun n=>AV.d (iD n)) hia,rfl⟩,?_⟩):p:=h
theorem bu{p:Prop}(h:p:=by exfalso;first|(simp at ht;done)|(simp at ht;omega)):p:=h
theorem ci{p:Prop}(h:p:=by first|assumption|exact⟨by kernel_rfl,rfl⟩|decide|omega):p:=h
theorem qA{p:Prop}(h:p:=by first|(simp[hRl,hZl];done)|assumption|exact⟨by kernel_rfl,rfl⟩|decide|omega|exact⟨rfl,by decide,by simp only[ef,jj];omega⟩):p:=h
theorem eH{p:Prop}(h:p:=by first|omega|(simp at *;omega)):p:=h
theorem cY{p:Prop}(h:p:=by first|trivial|assumption|omega):p:=h
theorem yd{p:Prop}(h:p:=by first|exact⟨mf _,by omega⟩|assumption|exact⟨by kernel_rfl,rfl⟩|decide|omega):p:=h
theorem VD{p:Prop}(h:p:=by first|exact cF _|exact⟨by rw[ef];exact hml,by decide,by show(2*(j+1)+192)*32<=281474976710656;omega⟩|assumption|exact⟨by kernel_rfl,rfl⟩|decide|omega):p:=h
theorem A5{p:Prop}(h:p:=by first|rfl|exact kG (hrR _) (by simp[hRl,hZl])|exact ja (hrR _) (by simp[hRl,hZl])):p:=h
theorem fF{p:Prop}(h:p:=by simp;omega):p:=h
theorem lQ{p:Prop}(h:p:=by exfalso;simp at ht;omega):p:=h
theorem VE{p:Prop}(h:p:=by first|(simp[h1];done)|assumption|exact⟨by kernel_rfl,rfl⟩|decide|omega):p:=h
theorem qbo{p:Prop}(h:p:=by first|exact⟨mf _,by omega⟩|exact cF _|exact⟨by rw[ef];exact hvl,by decide,hq⟩|assumption|exact⟨by kernel_rfl,rfl⟩|decide|omega|exact⟨rfl,by decide,by simp only[ef,jj];omega⟩):p:=h
theorem G1{p:Prop}(h:p:=by first|exact⟨hs1,cF _,hs2⟩|assumption|exact⟨by kernel_rfl,rfl⟩|decide|omega):p:=h
theorem G3{p:Prop}(h:p:=by repeat' first|exact trivial|(refine⟨by first|rfl|exact Kl rfl,?_⟩)):p:=h
theorem Ej{p:Prop}(h:p:=by rw[iQ];exact hC):p:=h
theorem Pu{p:Prop}(h:p:=by simp[ho,Op.operands,Call.operands]):p:=h
theorem qbt{p:Prop}(h:p:=by repeat' first|exact trivial|refine⟨⟨by first|rfl|assumption|exact congrArg (fun n=>AV.d (iD n)) e_i|exact congrArg (fun n=>AV.d (iD n)) hib|exact congrArg (fun n=>AV.d (iD n)) hia,rfl⟩,?_⟩):p:=h
theorem LD{p:Prop}(h:p:=by unfold kY;rw[Jm,Lw]):p:=h
theorem uz{p:Prop}(h:p:=by simpa using h):p:=h
theorem qbw{p:Prop}(h:p:=by repeat' first|exact trivial|refine⟨⟨di rfl,_,rfl,by first|rfl|assumption|(rw[hs];rfl),by first|exact ay rfl|exact aj _ _ _|exact au rfl|exact aj _ _ _⟩,?_⟩):p:=h
theorem qbx{p:Prop}(h:p:=by exact ah (dW _) ⟨⟨rfl,rfl⟩,⟨rfl,rfl⟩,trivial⟩ ⟨⟨di rfl,_,rfl,rfl,ay rfl⟩,trivial⟩ trivial):p:=h
theorem GI{p:Prop}(h:p:=by rw[rj qad qad];rfl):p:=h
theorem qbz{p:Prop}(h:p:=by repeat' first|exact trivial|(refine⟨⟨⟨Nat.ne_of_beq_eq_false rfl,nA rfl⟩,by first|exact aj _ _ _|exact ay rfl⟩,?_⟩)):p:=h
theorem qb0{p:Prop}(h:p:=by first|rfl|(simp only[jj,gx];first|exact dx hf2|exact dx ha)):p:=h
theorem qb1{p:Prop}(h:p:=by first|(simp only[jj,gx];first|exact lV ha|exact lV hf2)|rfl):p:=h
theorem qb2{p:Prop}(h:p:=by repeat' first|exact trivial|(refine⟨⟨by first|exact .inl (nA rfl)|exact .inr (nA rfl),rfl⟩,?_⟩)):p:=h
theorem qb3{p:Prop}(h:p:=by repeat' first|exact trivial|refine⟨⟨di rfl,_,rfl,by first|rfl|assumption|exact aw rfl (by first|rfl|assumption|exact aw rfl h3|exact aw rfl h2|exact h2)|exact aw rfl h3|exact aw rfl h2|exact h2,by first|exact ay rfl|exact aj _ _ _|exact au rfl⟩,?_⟩):p:=h
theorem qb4{p:Prop}(h:p:=by repeat' first|exact trivial|refine⟨⟨di rfl,_,rfl,by first|rfl|assumption|exact aw rfl (by first|rfl|assumption|exact h2|exact aw rfl h3|exact aw rfl h2)|exact h2|exact aw rfl h3|exact aw rfl h2,by first|exact ay rfl|exact aj _ _ _|exact au rfl⟩,?_⟩):p:=h
theorem TH{p:Prop}(h:p:=by unfold Al;rw[hc,if_neg (by simp)]):p:=h
theorem qb6{p:Prop}(h:p:=by repeat' first|exact trivial|refine⟨⟨by first|rfl|assumption|exact congrArg (fun n=>AV.d (iD n)) e_i|(rw[hs,LN];rfl),rfl⟩,?_⟩):p:=h
theorem qb7{p:Prop}(h:p:=by repeat' first|exact trivial|refine⟨⟨di rfl,_,rfl,by first|rfl|assumption|exact aw rfl (by first|rfl|assumption|exact aw rfl q3|exact aw rfl q2)|exact aw rfl q3|exact aw rfl q2,by first|exact ay rfl|exact aj _ _ _|exact au rfl⟩,?_⟩):p:=h
theorem qb8{p:Prop}(h:p:=by repeat' first|exact trivial|refine⟨⟨di rfl,_,rfl,by first|rfl|assumption|exact congrArg some (ee fun j=>by rw[prS_0])|(rw[hia];rfl),by first|exact ay rfl|exact aj _ _ _|exact au rfl|exact trivial|exact⟨rfl,nA rfl⟩⟩,?_⟩):p:=h
theorem qb9{p:Prop}(h:p:=by first|(simp[hlR,hlR2];done)|assumption|exact⟨by kernel_rfl,rfl⟩|decide|omega):p:=h
theorem TI{p:Prop}(h:p:=by first|rfl|exact hgg|exact hwg):p:=h
theorem qcb{p:Prop}(h:p:=by repeat' first|exact trivial|refine⟨⟨di rfl,_,rfl,by first|rfl|assumption|exact aw rfl (by first|rfl|assumption),by first|exact ay rfl|exact aj _ _ _|exact au rfl|exact trivial|exact⟨rfl,nA rfl⟩⟩,?_⟩):p:=h
theorem qcc{p:Prop}(h:p:=by repeat' first|exact trivial|refine⟨⟨by first|rfl|assumption|exact congrArg (fun n=>AV.d (iD n)) e_k|(rw[hnx];rfl),rfl⟩,?_⟩):p:=h
theorem qcd{p:Prop}(h:p:=by first|rfl|exact kG (hrR _) (by simp[hlR])|exact ja (hrR _) (by simp[hlR])|exact kG (hrR2 _) (by simp[hlR2])|exact ja (hrR2 _) (by simp[hlR2])|exact kG (hrA _) (by simp[hlA])|exact ja (hrA _) (by simp[hlA])):p:=h
theorem qce{p:Prop}(h:p:=by repeat' first|exact trivial|refine⟨⟨di rfl,_,rfl,by first|rfl|assumption|exact congrArg some (ee hst2),by first|exact ay rfl|exact aj _ _ _|exact au rfl|exact trivial|exact⟨rfl,nA rfl⟩⟩,?_⟩):p:=h
theorem TJ{p:Prop}(h:p:=by first|rfl|exact gG h_i):p:=h
theorem xt{p:Prop}(h:p:=by exact absurd ht qaj):p:=h
theorem QT{p:Prop}(h:p:=by rw[oL];exact hE):p:=h
theorem G4{p:Prop}(h:p:=by rw[ai _ _ e]at h1;exact⟨n,b,h1,h2⟩):p:=h
theorem qcj{p:Prop}(h:p:=by first|exact⟨mf _,by rw[hvl];omega⟩|assumption|exact⟨by kernel_rfl,rfl⟩|decide|omega|exact⟨rfl,by decide,by simp only[ef,jj];omega⟩):p:=h
theorem LF{p:Prop}(h:p:=by dsimp only;omega):p:=h
theorem qcl{p:Prop}(h:p:=by first|rfl|exact ja rfl (by rw[ef,hlen])):p:=h
theorem qcm{p:Prop}(h:p:=by repeat' first|exact trivial|refine⟨⟨di rfl,_,rfl,by first|rfl|assumption|(rw[hnx];rfl),by first|exact ay rfl|exact aj _ _ _|exact au rfl|exact aj _ _ _⟩,?_⟩):p:=h
theorem qcn{p:Prop}(h:p:=by repeat' first|exact trivial|refine⟨⟨di rfl,_,rfl,by first|rfl|assumption|exact congrArg some (ee hblk),by first|exact ay rfl|exact aj _ _ _|exact au rfl⟩,?_⟩):p:=h
theorem qco{p:Prop}(h:p:=by repeat' first|exact trivial|refine⟨⟨di rfl,_,rfl,by first|rfl|assumption|exact congrArg some (ee hst2),by first|exact ay rfl|exact aj _ _ _|exact au rfl⟩,?_⟩):p:=h
theorem qcp{p:Prop}(h:p:=by repeat' first|exact trivial|refine⟨⟨di rfl,_,rfl,by first|rfl|assumption|(rw[e];rfl),by first|exact ay rfl|exact aj _ _ _|exact au rfl|exact aj _ _ _⟩,?_⟩):p:=h
theorem qcq{p:Prop}(h:p:=by repeat' first|exact trivial|refine⟨⟨di rfl,_,rfl,by first|rfl|assumption|exact congrArg some (ee hsw),by first|exact ay rfl|exact aj _ _ _|exact au rfl⟩,?_⟩):p:=h
theorem qcr{p:Prop}(h:p:=by first|rfl|exact kG (hrA _) (by simp[hlA])|exact ja (hrA _) (by simp[hlA])):p:=h
theorem qcs{p:Prop}(h:p:=by first|rfl|exact dh h_m hgm):p:=h
theorem qct{p:Prop}(h:p:=by repeat' first|exact trivial|refine⟨⟨di rfl,_,rfl,by first|rfl|assumption|(rw[hs];rfl),by first|exact ay rfl|exact aj _ _ _|exact au rfl|exact trivial⟩,?_⟩):p:=h
theorem ny{p:Prop}(h:p:=by first|assumption|exact⟨by kernel_rfl,rfl⟩|decide|omega|exact⟨rfl,by decide,by simp only[ef,jj];omega⟩):p:=h
theorem TL{p:Prop}(h:p:=by first|exact⟨mf _,by omega⟩|assumption|exact⟨by kernel_rfl,rfl⟩|decide|omega|exact⟨rfl,by decide,by simp only[ef,jj];omega⟩):p:=h
theorem yu{p:Prop}(h:p:=by simpa using hl):p:=h
theorem G5{p:Prop}(h:p:=by unfold lF at ho;simp[ho,Op.operands,Call.operands]):p:=h
theorem LG{p:Prop}(h:p:=by simpa using ha):p:=h
theorem qcz{p:Prop}(h:p:=by first|(simp[hlA];done)|assumption|exact⟨by kernel_rfl,rfl⟩|decide|omega):p:=h
theorem qc0{p:Prop}(h:p:=by first|assumption|decide|omega|exact⟨mf _,by simp;omega⟩):p:=h
theorem qc1{p:Prop}(h:p:=by first|exact fr (x:=[_,_,_,_]) h_k|(simp only[List.set,bU,List.take,List.drop,JV,uV,yf,List.length];rfl)|rfl):p:=h
theorem qc2{p:Prop}(h:p:=by first|exact fr (x:=[_,_,_,_]) h_m|(simp only[List.set,bU,List.take,List.drop,JV,uV,yf,List.length];rfl)|rfl):p:=h
theorem qc3{p:Prop}(h:p:=by first|exact fr (x:=[_,_,_,_]) sp1|(simp only[List.set,bU,List.take,List.drop,JV,uV,yf,List.length];rfl)|rfl):p:=h
theorem Fl{p:Prop}(h:p:=by exfalso;simp at ht):p:=h
theorem qc5{p:Prop}(h:p:=by repeat' first|exact trivial|refine⟨⟨di rfl,_,rfl,by first|rfl|assumption|(rw[hsn];rfl),by first|exact ay rfl|exact aj _ _ _|exact au rfl⟩,?_⟩):p:=h
theorem qc6{p:Prop}(h:p:=by repeat' first|exact trivial|refine⟨⟨di rfl,_,rfl,by first|rfl|assumption,by first|exact ay rfl|exact aj _ _ _|exact au rfl|exact trivial⟩,?_⟩):p:=h
theorem Pv{p:Prop}(h:p:=by rw[e];decide):p:=h
theorem qc8{p:Prop}(h:p:=by first|exact OQ (by simp)|(simp only[List.set,bU,List.take,List.drop,JV,uV,yf,List.length];rfl)|rfl):p:=h
theorem qc9{p:Prop}(h:p:=by first|rfl|exact fj (f:=fun j=>Ps.l (rf j)) hf2|exact fj (f:=fun j=>Ps.l (rf j)) haN|exact dh (x:=Ps.l (rf f)) hf2 (by split<;>rfl)):p:=h
theorem qda{p:Prop}(h:p:=by exact absurd (F1 (.inl q)) (by rw[hE];decide)):p:=h
theorem qdb{p:Prop}(h:p:=by rw[dD]at h;split at h;cases h;exact h):p:=h
theorem qdc{p:Prop}(h:p:=by rw[hsn];exact congrArg some (dc rfl)):p:=h
theorem G8{p:Prop}(h:p:=by first|rfl|exact wK h_i):p:=h
theorem qde{p:Prop}(h:p:=by rw[getD_replicate_false]at hl;cases hl):p:=h
theorem TM{p:Prop}(h:p:=by simpa using hn):p:=h
theorem TN{p:Prop}(h:p:=by exact(hx.ok.h_bad h).elim):p:=h
theorem qdh{p:Prop}(h:p:=by first|exact⟨hb.1,rfl,by show 8*b<=_;omega,by decide,by decide⟩|assumption|exact⟨by kernel_rfl,rfl⟩|decide|omega):p:=h
theorem qdi{p:Prop}(h:p:=by first|rfl|(simp only[jj,gx];first|exact dx hlt|exact dx hi|exact dx ha)):p:=h
theorem qdj{p:Prop}(h:p:=by have:=(cj hC).2.1;omega):p:=h
theorem qdk{p:Prop}(h:p:=by rw[hs];show _=some (ap 1 (cS (s.2++[b])));unfold cS;rw[nh];exact congrArg some (dc rfl)):p:=h
theorem qdl{p:Prop}(h:p:=by repeat' first|exact trivial|refine⟨⟨by first|rfl|assumption|exact congrArg (fun n=>AV.d (iD n)) e_i|(rw[hcs,hia];rfl),rfl⟩,?_⟩):p:=h
theorem qdm{p:Prop}(h:p:=by rw[ef,ef,BZ];omega):p:=h
theorem qdn{p:Prop}(h:p:=by have:=h.len;have:=h.hi;omega):p:=h
theorem qdo{p:Prop}(h:p:=by show l.length-(i+1)<l.length-i;omega):p:=h
theorem G9{p:Prop}(h:p:=by rw[Rd];omega):p:=h
theorem qdq{p:Prop}(h:p:=by first|rfl|exact fj h_i):p:=h
theorem qdr{p:Prop}(h:p:=by repeat' first|exact trivial|refine⟨⟨by first|rfl|assumption|exact congrArg (fun n=>AV.d (iD n)) e_i|(rw[hcs];rfl),rfl⟩,?_⟩):p:=h
theorem qds{p:Prop}(h:p:=by rw[if_pos e2]at hg;exact .inl (by rw[e2,g2,hg])):p:=h
theorem qdt{p:Prop}(h:p:=by rw[if_pos e3]at hg;exact .inl (by rw[e3,g3,hg])):p:=h
theorem A8{p:Prop}(h:p:=by exact HF ok hT hdst h):p:=h
theorem qdv{p:Prop}(h:p:=by first|exact⟨dW _,by simp;omega,by simp⟩|assumption|exact⟨by kernel_rfl,rfl⟩|decide|omega):p:=h
theorem qdw{p:Prop}(h:p:=by first|rfl|exact zb h_i):p:=h
theorem qdx{p:Prop}(h:p:=by first|rfl|exact gG hlt):p:=h
theorem H3{p:Prop}(h:p:=by simpa using hL):p:=h
theorem qdz{p:Prop}(h:p:=by rename_i hc;rw[FM]at h;exact⟨_,h,fun H2 hE=>KL (st:={ st with heap:=H2 }) ho ((hev H2 c).symm.trans hc) rfl⟩):p:=h
theorem G6{p:Prop}(h:p:=by first|rfl|exact hfk):p:=h
theorem qd1{p:Prop}(h:p:=by first|rfl|exact fj (f:=fun j=>Ps.l (rf j)) h_i):p:=h
theorem A6{p:Prop}(h:p:=by simpa using h1):p:=h
theorem qd3{p:Prop}(h:p:=by first|rfl|(simp only[jj,gx];first|exact dx hi|exact dx ha)):p:=h
theorem qd4{p:Prop}(h:p:=by rename_i q;simp only[q];exact⟨trivial,h⟩):p:=h
theorem G7{p:Prop}(h:p:=by simp at ht;omega):p:=h
theorem qd6{p:Prop}(h:p:=by unfold Cp;rw[if_neg hE]):p:=h
theorem qd7{p:Prop}(h:p:=by unfold Cp;rw[if_pos hE]):p:=h
theorem qd8{p:Prop}(h:p:=by repeat' first|exact trivial|refine⟨⟨by first|rfl|assumption|exact congrArg (fun n=>AV.d (iD n)) e1,rfl⟩,?_⟩):p:=h
theorem A7{p:Prop}(h:p:=by simp[dC]):p:=h
theorem A9{p:Prop}(h:p:=by simpa using hA):p:=h
theorem qeb{p:Prop}(h:p:=by rcases wa1 j m with q|q;exact q;exact absurd (by rw[show j=m by omega];exact h0) hz):p:=h
theorem aR{p:Prop}(h:p:=by simp):p:=h
theorem B2{p:Prop}(h:p:=by first|assumption|decide):p:=h
theorem qee{p:Prop}(h:p:=by rw[h];exact Nat.mul_pos (sk t) qad):p:=h
theorem qef{p:Prop}(h:p:=by first|rfl|exact fj (f:=fun j=>Ps.l (r j)) h_k|exact fj (f:=fun j=>Ps.l (r j)) haN):p:=h
theorem H4{p:Prop}(h:p:=by exact HD ok hT hdst h):p:=h
theorem qeh{p:Prop}(h:p:=by first|exact of_decide_eq_true ar|assumption|exact⟨by kernel_rfl,rfl⟩|decide|omega):p:=h
theorem qei{p:Prop}(h:p:=by rw[<- hA];exact(List.nodup_range).filter _):p:=h
theorem qej{p:Prop}(h:p:=by unfold gR at h;omega):p:=h
theorem qek{p:Prop}(h:p:=by exact⟨a,fz,(World.putObj_heap_other hj).trans h,rfl⟩):p:=h
theorem qel{p:Prop}(h:p:=by rw[jI,ew (show i<l.length by omega)];rfl):p:=h
theorem qem{p:Prop}(h:p:=by first|rfl|exact Yz h_i):p:=h
theorem qen{p:Prop}(h:p:=by first|rfl|exact dh (x:=[_]) h_k hgk):p:=h
theorem qeo{p:Prop}(h:p:=by first|rfl|exact hg):p:=h
theorem qep{p:Prop}(h:p:=by rw[hat (by rw[hz];decide),hz];decide):p:=h
theorem qeq{p:Prop}(h:p:=by have:=hs.hi;omega):p:=h
theorem qer{p:Prop}(h:p:=by rw[VW qad];rfl):p:=h
theorem qes{p:Prop}(h:p:=by rw[AH qad qad];omega):p:=h
theorem qet{p:Prop}(h:p:=by rw[dT hw g1 (hv _ hm)];exact cg hG g2 (bC hG (bm.2 ⟨_,hm,rfl⟩))):p:=h
theorem qeu{p:Prop}(h:p:=by(intro j hj;rcases wa1 j i with h|h;exact I_i j h;rw[show j=i by omega];exact hb)):p:=h
theorem qev{p:Prop}(h:p:=by(intro j hj;rcases wa1 j i with q|q;exact I_i j q;rw[show j=i by omega];exact ht)):p:=h
theorem qew{p:Prop}(h:p:=by subst en;rw[ao]at h;cases h;exact hg):p:=h
theorem qex{p:Prop}(h:p:=by rw[ai _ _ hnm];exact hg):p:=h
theorem qey{p:Prop}(h:p:=by rw[if_pos e2]at hg;rw[e2,h2,hg]):p:=h
theorem qez{p:Prop}(h:p:=by rw[if_pos e3]at hg;rw[e3,h3,hg]):p:=h
theorem qe0{p:Prop}(h:p:=by exact LM (uU h1 (js qaj qad))):p:=h
theorem qe1{p:Prop}(h:p:=by exact LM (uU h2 (js qaj qad))):p:=h
theorem qe2{p:Prop}(h:p:=by rw[jI,ew h_k];rfl):p:=h
theorem qe3{p:Prop}(h:p:=by rw[jI,ew hk];rfl):p:=h
theorem qe4{p:Prop}(h:p:=by rw[Fb]at hj;split at hj;exact hj;cases hj):p:=h
theorem qe5{p:Prop}(h:p:=by rw[I4,jj];exact cF _):p:=h
theorem qe6{p:Prop}(h:p:=by rw[mb.1 hel];rfl):p:=h
theorem qe7{p:Prop}(h:p:=by rw[e1,nh];exact congrArg some (dc rfl)):p:=h
theorem qe8{p:Prop}(h:p:=by rw[e2,nh];exact congrArg some (dc rfl)):p:=h
theorem LH{p:Prop}(h:p:=by assumption):p:=h
theorem qfa{p:Prop}(h:p:=by exfalso;simp at ht;exact absurd ht (Int.not_lt.2 (mf _))):p:=h
theorem GJ{p:Prop}(h:p:=by simp[h]):p:=h
theorem qfc{p:Prop}(h:p:=by dsimp only at *;omega):p:=h
theorem qfd{p:Prop}(h:p:=by have:=hR.names q q';simp only at this;omega):p:=h
theorem H7{p:Prop}(h:p:=by simp[Ctx.alloc]):p:=h
theorem H8{p:Prop}(h:p:=by simp only;omega):p:=h
theorem qfg{p:Prop}(h:p:=by unfold bH;rw[if_neg hA,if_neg H3,if_neg (by rw[hO];simp),if_neg (by rw[hD];simp)]):p:=h
theorem qfh{p:Prop}(h:p:=by unfold bH;rw[if_neg hA,if_neg H3,if_neg (by rw[hO];simp),if_pos (RJ h_i ht)]):p:=h
theorem qfi{p:Prop}(h:p:=by first|rfl|exact kG (hrR _) (by simp[hlR])|exact ja (hrR _) (by simp[hlR])):p:=h
theorem qfj{p:Prop}(h:p:=by first|rfl|exact dh sp1 hgA|exact kG (congrArg some (ee hfin)) aR):p:=h
theorem H9{p:Prop}(h:p:=by simpa using hj):p:=h
theorem I0{p:Prop}(h:p:=by simpa using hw):p:=h
theorem qfm{p:Prop}(h:p:=by subst en;rw[ao]at hgn;cases hgn;exact⟨.inr rfl,.inl ⟨by simp[C'],rfl⟩⟩):p:=h
theorem qfn{p:Prop}(h:p:=by rw[tV];unfold cV;simp):p:=h
theorem B3{p:Prop}(h:p:=by simpa using hi):p:=h
theorem qfp{p:Prop}(h:p:=by simpa[AV.bel] using h):p:=h
theorem qfq{p:Prop}(h:p:=by simpa using a2):p:=h
theorem qfr{p:Prop}(h:p:=by unfold Ke;rw[hc,if_neg aR];rfl):p:=h
theorem qfs{p:Prop}(h:p:=by first|rfl|exact hgl):p:=h
theorem qft{p:Prop}(h:p:=by first|rfl|exact hgq):p:=h
theorem qfu{p:Prop}(h:p:=by simp[af]):p:=h
theorem qfv{p:Prop}(h:p:=by simpa using c1):p:=h
theorem qfw{p:Prop}(h:p:=by rw[e2]at e3;exact absurd e3 qaj):p:=h
theorem qfx{p:Prop}(h:p:=by exact hk f _ _ (.inr ⟨f,rfl,h1,h2,h3,h4⟩) hh ⟨rfl,rfl,rfl,rfl,rfl⟩ rfl):p:=h
theorem qfy{p:Prop}(h:p:=by exact⟨hd,x,h1,x,v,st'.heap,st'.nx,C',rfl,rfl,hK,h2,hR'.heap,hR'.names,hT⟩):p:=h
theorem qfz{p:Prop}(h:p:=by intro r hr;rw[mb.1 hr];exact hvl a0 sp1):p:=h
theorem qf0{p:Prop}(h:p:=by have:=hH.ro j hj;simpa[Ctx.put] using this):p:=h
theorem qf1{p:Prop}(h:p:=by rw[ai _ _ e]at h;exact⟨b,h⟩):p:=h
theorem qf2{p:Prop}(h:p:=by rw[hl,Lp];omega):p:=h
theorem qf3{p:Prop}(h:p:=by simpa[show ¬ 7=i by omega] using hl):p:=h
theorem qf4{p:Prop}(h:p:=by simpa using h2):p:=h
theorem qf5{p:Prop}(h:p:=by unfold gY;simpa using ht):p:=h
theorem qf6{p:Prop}(h:p:=by first|rfl|exact dh h_m hgm|exact dh sp1 hgA):p:=h
theorem qf7{p:Prop}(h:p:=by have:=(nt.1 a1).1;simpa using this):p:=h
theorem H5{p:Prop}(h:p:=by simp[hl]):p:=h
theorem H6{p:Prop}(h:p:=by simp[cS]):p:=h
theorem qga{p:Prop}(h:p:=by rw[ef];omega):p:=h
theorem qgb{p:Prop}(h:p:=by rw[aC h_j,nh,nh];rfl):p:=h
theorem qgc{p:Prop}(h:p:=by rw[y1];rfl):p:=h
theorem qgd{p:Prop}(h:p:=by rw[y2,bh hysz]):p:=h
theorem qge{p:Prop}(h:p:=by simp only[Ln,wd0];omega):p:=h
theorem qgf{p:Prop}(h:p:=by intro y hy;rw[mb.1 hy];exact hFv):p:=h
theorem qgg{p:Prop}(h:p:=by rw[ef,rJ,BZ];omega):p:=h
theorem qgh{p:Prop}(h:p:=by rw[funext h];rfl):p:=h
theorem qgi{p:Prop}(h:p:=by rw[if_neg e3]at hg;cases hg):p:=h
theorem qgj{p:Prop}(h:p:=by rw[if_pos e4]at hg;cases hg):p:=h
theorem qgk{p:Prop}(h:p:=by exact⟨_,h,fun H2 hE=>Pm (st:={ st with heap:=H2 }) ho hx⟩):p:=h
theorem qgl{p:Prop}(h:p:=by rename_i q;cases h;simp only[q];exact⟨trivial,trivial,trivial⟩):p:=h
theorem qgm{p:Prop}(h:p:=by rw[tV];simp):p:=h
theorem qgn{p:Prop}(h:p:=by rw[ef,hlen]):p:=h
theorem qgo{p:Prop}(h:p:=by rw[hf];decide):p:=h
theorem qgp{p:Prop}(h:p:=by simp[hlB]):p:=h
theorem qgq{p:Prop}(h:p:=by rw[g2];exact(nt.1 hv).1):p:=h
theorem qgr{p:Prop}(h:p:=by rw[hS2];exact congrArg some (dc rfl)):p:=h
theorem qgs{p:Prop}(h:p:=by first|(simp[hlR,hlR2,hlA];done)|assumption|exact⟨by kernel_rfl,rfl⟩|decide|omega):p:=h
theorem qgt{p:Prop}(h:p:=by first|(simp[hlR];done)|assumption|exact⟨by kernel_rfl,rfl⟩|decide|omega):p:=h
theorem qgu{p:Prop}(h:p:=by first|assumption|decide|omega|exact⟨by decide,by simp;omega⟩):p:=h
theorem qgv{p:Prop}(h:p:=by rw[ef,hlen];exact cF _):p:=h
theorem qgw{p:Prop}(h:p:=by rw[hs2];exact congrArg some (dc rfl)):p:=h
theorem qgx{p:Prop}(h:p:=by rw[q1];exact(nt.1 hq).1):p:=h
theorem qgy{p:Prop}(h:p:=by exact(hR.env.env m).later h2 hR.heap):p:=h
theorem GL{p:Prop}(h:p:=by exact fin rfl):p:=h
theorem qg0{p:Prop}(h:p:=by rw[<- py,yE,Lo]):p:=h
theorem qg1{p:Prop}(h:p:=by rw[h1];exact congrArg some (dc rfl)):p:=h
theorem qg2{p:Prop}(h:p:=by rw[hs];exact congrArg some (dc rfl)):p:=h
theorem qg3{p:Prop}(h:p:=by simp[IntKind.wrap,IntKind.bits,IntKind.signed]):p:=h
theorem qg4{p:Prop}(h:p:=by subst em;exact h5.img m _ k hg' h6 h7):p:=h
theorem qg5{p:Prop}(h:p:=by exfalso;rw[decide_eq_false_iff_not,ef]at ht;omega):p:=h
theorem qg6{p:Prop}(h:p:=by first|rfl|exact gG hlt|exact gG hlt2):p:=h
theorem qg7{p:Prop}(h:p:=by have:=(nt.1 a2).1;omega):p:=h
theorem qg8{p:Prop}(h:p:=by rw[Lp];omega):p:=h
theorem qg9{p:Prop}(h:p:=by rw[rU];exact hj):p:=h
theorem qha{p:Prop}(h:p:=by simp[ha]):p:=h
theorem qhb{p:Prop}(h:p:=by simp[cV]at ho;omega):p:=h
theorem qhc{p:Prop}(h:p:=by rw[mb.1 h];exact ht):p:=h
theorem qhd{p:Prop}(h:p:=by rw[ai _ _ em]at h;cases h):p:=h
theorem qhe{p:Prop}(h:p:=by rw[ai _ _ en]at h;exact h):p:=h
theorem qhf{p:Prop}(h:p:=by simp[eL,cd,e1]):p:=h
theorem qhg{p:Prop}(h:p:=by first|rfl|exact hg0):p:=h
theorem qhh{p:Prop}(h:p:=by first|rfl|exact hgg):p:=h
theorem qhi{p:Prop}(h:p:=by first|rfl|exact hgi):p:=h
theorem qhj{p:Prop}(h:p:=by first|rfl|exact hgm):p:=h
theorem qhk{p:Prop}(h:p:=by rw[Fo,hbit,Uw]):p:=h
theorem qhl{p:Prop}(h:p:=by show 2*w0.toNat-(c+1)<2*w0.toNat-c;omega):p:=h
theorem qhm{p:Prop}(h:p:=by obtain⟨q,hq,rfl⟩:=bm.1 e;exact hlt _ (hV q hq)):p:=h
theorem qhn{p:Prop}(h:p:=by obtain⟨y,h1,h2⟩:=h;exact⟨y,h1,h2⟩):p:=h
theorem qho{p:Prop}(h:p:=by rw[ef,BZ];omega):p:=h
theorem qhp{p:Prop}(h:p:=by rw[eo h4 hR.marks,<- hR.defers];cases o.dst<;>rfl):p:=h
theorem qhq{p:Prop}(h:p:=by rename_i q1 q2 q3;simp at q1 q2 q3;omega):p:=h
theorem qhr{p:Prop}(h:p:=by rw[hexS];exact hB):p:=h
theorem qhs{p:Prop}(h:p:=by show j-a<w-a;omega):p:=h
theorem qht{p:Prop}(h:p:=by simp at *;simp[*]):p:=h
theorem qhu{p:Prop}(h:p:=by simpa using hp):p:=h
theorem qhv{p:Prop}(h:p:=by subst en;rw[ao]at h;cases h;exact hH.blk n _ hg):p:=h
theorem qhw{p:Prop} (h:p:=by 
 have hE1:True:=trivial
 have h29:=Vh (G:=GG) (w:=W2) l false ks u qad qad qad (fun k hk=>hks hE k hk) hs.lo hs.hi
 rw[if_neg (fun h=>h hE),Nq hs hE]at h34
 rw[hE]
 generalize Kn W2 l ks=en at h29 h34
 by_cases hz:n<1\/n>12
 ·have h30:=sy hz
  have h35:=sA hz
  have hZl:True:=trivial
  conv=>whnf
  repeat (refine O6.mk _ rfl ?_;conv=>whnf)
  intro t ht
  cases t
  rotate_left
  ·exact bu
  conv=>whnf
  repeat' first|((first|refine O6.mk _ A5 ?_|refine O8.mk _ aK ?_|(refine aJ qA ?_)|refine yk ?_|refine aa h35 ?_|refine ab h35 ?_|refine aY h31 ?_|refine aa h30 ?_|refine ab h30 ?_|refine aa h32 ?_|refine ab h32 ?_|refine aa h33 ?_|refine ab h33 ?_|refine aa h34 ?_|refine ab h34 ?_|refine aa h36 ?_|refine ab h36 ?_|refine aa hsm ?_|refine ab hsm ?_|refine aa hsm2 ?_|refine ab hsm2 ?_|refine aa heq ?_|refine ab heq ?_|refine aa av ?_|refine ab av ?_|refine aa h26 ?_|refine ab h26 ?_|refine aa hth ?_|refine ab hth ?_|refine aa h26b ?_|refine ab h26b ?_|refine aa (hth') ?_|refine ab (hth') ?_|refine aa h27 ?_|refine ab h27 ?_|refine aa h28 ?_|refine ab h28 ?_|refine aa h29 ?_|refine ab h29 ?_|refine aa (aX _) ?_|refine ab (aX _) ?_|refine aH (aM rfl rfl (hrR _)) ?_|refine aZ ht1 ?_|refine aa h27R ?_|refine ab h27R ?_|rw[aW]|refine P5.mk _ rfl ?_|refine aB pok Tryz.func37 dj ?_|refine HpP.force ?_);conv=>whnf)|(intro t ht;cases t<;>conv=>whnf)
  all_goals first|exact fin rfl|(exfalso;simp at ht;done)
 ·obtain⟨N,rfl⟩:∃ N:Nat,n=N:=⟨n.toNat,by omega⟩
  have h30:=tY (w:=N) qad qad
  have h35:=sC (w:=N) ⟨by omega,by omega⟩
  have hZl:(dC N).length=N:=A7
  unfold zD at h30
  generalize dC N=Z at h30 h35 hZl
  have ht2:=bz (G:=GG) N Z false qad qad
  have h27Z:=bP (G:=GG) N N Z Z false false qad
  rw[decide_eq_true ⟨rfl,rfl⟩]at h27Z
  rw[hZl]at ht2
  have hrZ:∀ ρ:Nat->Nat,some (Blk.ren ρ (ap 4 (Z.map Ps.l)))=some (ap 4 (Z.map Ps.l)):=fun ρ=>by rw[aE]
  conv=>whnf
  repeat (refine O6.mk _ rfl ?_;conv=>whnf)
  intro t ht
  cases t
  rotate_left
  ·exact bu
  conv=>whnf
  repeat' first|((first|refine O6.mk _ A0 ?_|refine O8.mk _ aK ?_|(refine aJ qA ?_)|refine yk ?_|refine aY h35 ?_|refine aY h31 ?_|refine aa h30 ?_|refine ab h30 ?_|refine aa h32 ?_|refine ab h32 ?_|refine aa h33 ?_|refine ab h33 ?_|refine aa h34 ?_|refine ab h34 ?_|refine aa h36 ?_|refine ab h36 ?_|refine aa hsm ?_|refine ab hsm ?_|refine aa hsm2 ?_|refine ab hsm2 ?_|refine aa heq ?_|refine ab heq ?_|refine aa av ?_|refine ab av ?_|refine aa h26 ?_|refine ab h26 ?_|refine aa hth ?_|refine ab hth ?_|refine aa h26b ?_|refine ab h26b ?_|refine aa (hth') ?_|refine ab (hth') ?_|refine aa h27 ?_|refine ab h27 ?_|refine aa h28 ?_|refine ab h28 ?_|refine aa h29 ?_|refine ab h29 ?_|refine aH (aM rfl rfl (hrR _)) ?_|refine aH (aM rfl rfl (hrZ _)) ?_|refine aZ ht1 ?_|refine aZ ht2 ?_|refine aa h27R ?_|refine ab h27R ?_|refine aa h27Z ?_|refine ab h27Z ?_|rw[aW]|refine P5.mk _ rfl ?_|refine aB pok Tryz.func37 dj ?_|refine HpP.force ?_);conv=>whnf)|(intro t ht;cases t<;>conv=>whnf)
  all_goals first|exact fin rfl|(exfalso;simp at ht;done)):p:=h
theorem qhx{p:Prop} (h:p:=by 
 have hE1:=hE
 rw[if_pos hE]at h34
 generalize pu W2 ks=e14 at *
 by_cases hz:n<1\/n>12
 ·have h30:=sy hz
  have h35:=sA hz
  have hZl:True:=trivial
  conv=>whnf
  repeat (refine O6.mk _ rfl ?_;conv=>whnf)
  intro t ht
  cases t
  rotate_left
  ·exact bu
  conv=>whnf
  repeat' first|((first|refine O6.mk _ A5 ?_|refine O8.mk _ aK ?_|(refine aJ qA ?_)|refine yk ?_|refine uF hE1 ?_|refine aa h35 ?_|refine ab h35 ?_|refine aY h31 ?_|refine aa h30 ?_|refine ab h30 ?_|refine aa h32 ?_|refine ab h32 ?_|refine aa h33 ?_|refine ab h33 ?_|refine aa h34 ?_|refine ab h34 ?_|refine aa h36 ?_|refine ab h36 ?_|refine aa hsm ?_|refine ab hsm ?_|refine aa hsm2 ?_|refine ab hsm2 ?_|refine aa heq ?_|refine ab heq ?_|refine aa av ?_|refine ab av ?_|refine aa h26 ?_|refine ab h26 ?_|refine aa hth ?_|refine ab hth ?_|refine aa h26b ?_|refine ab h26b ?_|refine aa (hth') ?_|refine ab (hth') ?_|refine aa h27 ?_|refine ab h27 ?_|refine aa h28 ?_|refine ab h28 ?_|refine aa (aX _) ?_|refine ab (aX _) ?_|refine aH (aM rfl rfl (hrR _)) ?_|refine aZ ht1 ?_|refine aa h27R ?_|refine ab h27R ?_|rw[aW]|refine P5.mk _ rfl ?_|refine aB pok Tryz.func37 dj ?_|refine HpP.force ?_);conv=>whnf)|(intro t ht;cases t<;>conv=>whnf)
  all_goals first|exact fin rfl|(exfalso;simp at ht;done)
 ·obtain⟨N,rfl⟩:∃ N:Nat,n=N:=⟨n.toNat,by omega⟩
  have h30:=tY (w:=N) qad qad
  have h35:=sC (w:=N) ⟨by omega,by omega⟩
  have hZl:(dC N).length=N:=A7
  unfold zD at h30
  generalize dC N=Z at h30 h35 hZl
  have ht2:=bz (G:=GG) N Z false qad qad
  have h27Z:=bP (G:=GG) N N Z Z false false qad
  rw[decide_eq_true ⟨rfl,rfl⟩]at h27Z
  rw[hZl]at ht2
  have hrZ:∀ ρ:Nat->Nat,some (Blk.ren ρ (ap 4 (Z.map Ps.l)))=some (ap 4 (Z.map Ps.l)):=fun ρ=>by rw[aE]
  conv=>whnf
  repeat (refine O6.mk _ rfl ?_;conv=>whnf)
  intro t ht
  cases t
  rotate_left
  ·exact bu
  conv=>whnf
  repeat' first|((first|refine O6.mk _ A0 ?_|refine O8.mk _ aK ?_|(refine aJ qA ?_)|refine yk ?_|refine uF hE1 ?_|refine aY h35 ?_|refine aY h31 ?_|refine aa h30 ?_|refine ab h30 ?_|refine aa h32 ?_|refine ab h32 ?_|refine aa h33 ?_|refine ab h33 ?_|refine aa h34 ?_|refine ab h34 ?_|refine aa h36 ?_|refine ab h36 ?_|refine aa hsm ?_|refine ab hsm ?_|refine aa hsm2 ?_|refine ab hsm2 ?_|refine aa heq ?_|refine ab heq ?_|refine aa av ?_|refine ab av ?_|refine aa h26 ?_|refine ab h26 ?_|refine aa hth ?_|refine ab hth ?_|refine aa h26b ?_|refine ab h26b ?_|refine aa (hth') ?_|refine ab (hth') ?_|refine aa h27 ?_|refine ab h27 ?_|refine aa h28 ?_|refine ab h28 ?_|refine aH (aM rfl rfl (hrR _)) ?_|refine aH (aM rfl rfl (hrZ _)) ?_|refine aZ ht1 ?_|refine aZ ht2 ?_|refine aa h27R ?_|refine ab h27R ?_|refine aa h27Z ?_|refine ab h27Z ?_|rw[aW]|refine P5.mk _ rfl ?_|refine aB pok Tryz.func37 dj ?_|refine HpP.force ?_);conv=>whnf)|(intro t ht;cases t<;>conv=>whnf)
  all_goals first|exact fin rfl|(exfalso;simp at ht;done)):p:=h
theorem qhy{p:Prop} (h:p:=by 
 intro m A_m h_m I_m N_m
 have e_m:aD .i64 (m:Int) 1=((m+1:Nat):Int):=ak eH
 have hcm:=sp (G:=GG) hw hpv (hvl m h_m)
 have hst:∀ j,(if j=m then Ps.l (lY (zP w n o) rf a0 (m+1) m) else Ps.l (lY (zP w n o) rf a0 m j))=Ps.l (lY (zP w n o) rf a0 (m+1) j):=fun j=>Pe j
 have hgm:(fun j=>Ps.l (lY (zP w n o) rf a0 m j)) m=Ps.l (rf m):=by dsimp only;rw[ZV]
 cases hbm:bS (zP w n o) (rf m) with
 | true =>
  rw[hbm]at hcm
  have hsame:∀ j,Ps.l (lY (zP w n o) rf a0 m j)=Ps.l (lY (zP w n o) rf a0 (m+1) j):=fun j=>by rw[DY (.inl hbm)]
  generalize lY (zP w n o) rf a0 m=g at hgm hsame hst
  conv=>whnf
  repeat (refine O6.mk _ rfl ?_;conv=>whnf)
  intro t ht
  cases t
  ·exact bu
  conv=>whnf
  repeat' first|((first|refine O6.mk _ qcs ?_|refine O8.mk _ aK ?_|refine aJ ci ?_|refine aa hcm ?_|refine HpP.force ?_);conv=>whnf)
  refine N_m _ ?_ ?_
  ·exact cY
  ·refine ah cW ?_ ?_ trivial
   ·exact qa7
   ·exact qa2
 | false =>
  rw[hbm]at hcm
  by_cases hma:m=a0
  ·have hsame:∀ j,Ps.l (lY (zP w n o) rf a0 m j)=Ps.l (lY (zP w n o) rf a0 (m+1) j):=fun j=>by rw[DY (.inr hma)]
   generalize lY (zP w n o) rf a0 m=g at hgm hsame hst
   generalize lY (zP w n o) rf a0 (m+1)=g' at hsame hst N_m
   subst hma
   conv=>whnf
   repeat (refine O6.mk _ rfl ?_;conv=>whnf)
   intro t ht
   cases t
   ·exact bu
   conv=>whnf
   repeat' first|((first|refine O6.mk _ qcs ?_|refine O8.mk _ aK ?_|refine aJ ci ?_|refine aa hcm ?_|refine HpP.force ?_);conv=>whnf)
   refine cv pok ?_
   conv=>whnf
   repeat' first|((first|refine O6.mk _ rfl ?_|rw[hB1]|refine im ?_);conv=>whnf)
   refine N_m _ ?_ ?_
   ·exact cY
   ·refine ah cW ?_ ?_ trivial
    ·exact qa7
    ·exact qa2
  ·have hma':(m:Int)≠a0:=by omega
   have hta:=jN (G:=GG) hw (rf m) [rf a0] true aR (hvl m h_m) qfz
   have hme2:([rf a0].foldl bc (rf m))=lY (zP w n o) rf a0 (m+1) m:=(TC hma hbm).symm
   rw[hme2]at hta
   have hga:lY (zP w n o) rf a0 m a0=rf a0:=GA
   generalize lY (zP w n o) rf a0 m=g at hgm hst hga
   generalize hg1:lY (zP w n o) rf a0 (m+1)=g' at hst hta N_m
   generalize hr':g' m=r' at hta hst
   have hst2:∀ j,(if j=m then [iD r'.w,iD r'.x,iD r'.z,iD r'.p] else Ps.l (g j))=Ps.l (g' j):=hst
   have hgA:(fun j=>Ps.l (g j)) a0=Ps.l (rf a0):=by dsimp only;rw[hga]
   conv=>whnf
   repeat (refine O6.mk _ rfl ?_;conv=>whnf)
   intro t ht
   cases t
   ·exact bu
   conv=>whnf
   repeat' first|((first|refine O6.mk _ qcs ?_|refine O8.mk _ aK ?_|refine aJ ci ?_|refine aa hcm ?_|refine HpP.force ?_);conv=>whnf)
   refine cv pok ?_
   conv=>whnf
   repeat' first|((first|refine O6.mk _ qf6 ?_|refine O8.mk _ qc2 ?_|refine aJ yd ?_|rw[hB1]|refine mj hma' ?_|refine ab hta ?_|refine HpP.force ?_);conv=>whnf)
   refine N_m _ ?_ ?_
   ·exact cY
   ·refine ah cW ?_ ?_ trivial
    ·exact qa7
    ·exact qce):p:=h
theorem nr{p:Prop} (h:p:=by 
 refine ah cW ?_ ?_ trivial
 ·exact gn
 ·exact lZ):p:=h
theorem yv{p:Prop} (h:p:=by 
 refine ah cW ?_ ?_ trivial
 ·exact Ch
 ·exact lZ):p:=h
theorem qh1{p:Prop} (h:p:=by 
 rintro v H n ⟨rfl,h2⟩
 refine⟨_,_,1,?_,rfl,rfl,rfl⟩
 first|refine aO [(0,2)] ?_ ?_ ?_ trivial|refine aI [(0,2)] rfl rfl ?_ ?_ ?_ trivial
 ·exact gn
 ·exact ZZ
 ·exact iI):p:=h
theorem qh2{p:Prop} (h:p:=by 
 refine ae pok Tryz.func3 Kg ?_
 conv=>whnf
 repeat' first|((first|refine O6.mk _ rfl ?_|refine O8.mk _ aK ?_|refine aJ ny ?_|refine bp hgt ?_|refine bp hd6 ?_|refine bp hb0 ?_|refine bp hbN ?_|refine aQ ?_|refine aa c16 ?_|refine ab c16 ?_|refine aa c18 ?_|refine ab c18 ?_|refine aa c17 ?_|refine ab c17 ?_|refine aa c19 ?_|refine ab c19 ?_|refine aa c20 ?_|refine ab c20 ?_|refine aa c21 ?_|refine ab c21 ?_|refine aa c22 ?_|refine ab c22 ?_|refine aa c23 ?_|refine ab c23 ?_|refine aa av ?_|refine ab av ?_|refine HpP.force ?_);conv=>whnf)|(intro t ht;cases t<;>conv=>whnf)
 exact fin rfl):p:=h
theorem qh3{p:Prop} (h:p:=by 
 refine bk (bi pok Tryz.func137 vW (K:=fun v H m=>v=rV c 0/\H.get 2=some (mg w 14 F)/\H.get 14=some (ap 4 (Q.map Ps.l))) ?_) ?_
 ·conv=>whnf
  repeat' first|((first|refine O6.mk _ rfl ?_|refine O8.mk _ aK ?_|refine jO hM (cF 12) rfl rfl ?_|refine aQ ?_|refine KJ ha rfl rfl qaj hml ?_|refine HpP.force ?_);conv=>whnf)
  refine fin ⟨rfl,rfl,?_⟩
  show some (Blk.ren _ (ap 4 _))=_
  rw[aE]
 ·rintro v H m ⟨rfl,h2,h3⟩
  refine⟨rV c 0,[(2,some (mg w 12 F)),(12,some (ap 4 (Q.map Ps.l)))],13,?_,rfl,rfl,rfl,rfl⟩
  first|refine aO [(2,2),(12,14)] ?_ ?_ ?_ trivial|refine aI [(2,2),(12,14)] rfl rfl ?_ ?_ ?_ trivial
  ·exact gn
  ·exact qb3
  ·exact iI):p:=h
theorem qh4{p:Prop} (h:p:=by 
 refine ae pok Tryz.func3 Kg ?_
 conv=>whnf
 repeat' first|((first|refine O6.mk _ rfl ?_|refine O8.mk _ aK ?_|refine aJ ny ?_|refine bp hgt ?_|refine bp hd6 ?_|refine bp hb0 ?_|refine aQ ?_|refine aa c16 ?_|refine ab c16 ?_|refine aa c18 ?_|refine ab c18 ?_|refine aa c17 ?_|refine ab c17 ?_|refine aa c19 ?_|refine ab c19 ?_|refine aa c20 ?_|refine ab c20 ?_|refine aa c21 ?_|refine ab c21 ?_|refine aa c22 ?_|refine ab c22 ?_|refine aa c23 ?_|refine ab c23 ?_|refine aa av ?_|refine ab av ?_|refine HpP.force ?_);conv=>whnf)|(intro t ht;cases t<;>conv=>whnf)
 exact fin rfl):p:=h
theorem qh5{p:Prop} (h:p:=by 
 have h5:=h2.weaken (Y:=X) fun q hq=>(hX q hq).1
 refine{ os:=h5.os,tape:=h5.tape,output:=h5.output,size:=h5.size,shape:=h5.shape,frame:=h5.frame,names:=h5.names,ros:=h5.ros,img:=fun m bl k h1 h6 h7=>?_,rob:=h5.rob }
 by_cases em:m=nm
 ·exact qg4
 ·simp only at h1
  rw[ai _ _ em]at h1;exact h5.img m bl k h1 h6 h7):p:=h
theorem qh6{p:Prop} (h:p:=by 
 first|refine aO [(4,7)] ?_ ?_ ?_ trivial|refine aI [(4,7)] rfl rfl ?_ ?_ ?_ trivial
 ·exact qaz
 ·exact ZY
 ·exact iI):p:=h
theorem qh7{p:Prop} (h:p:=by 
 intro n n' b b1 j h1 h2 e1 e2
 have old:∀ n b,AHeap.get ((nm,some b')::H) n=some b->∃ b2,H.get n=some b2:=fun n b h=>by
  by_cases e:n=nm
  ·subst e;exact⟨b0,hg⟩
  ·exact qf1
 obtain⟨q1,g1⟩:=old n b h1
 obtain⟨q2,g2⟩:=old n' b1 h2
 exact hH.inj n n' q1 q2 j g1 g2 e1 e2):p:=h
theorem qh8{p:Prop} (h:p:=by 
 rw[ai _ _ e]at h
 obtain⟨hU,hB⟩:=hH.blk n b h
 refine⟨hU,eD hH ht hU hB fun j hj=>⟨World.putObj_heap_other (fun ej=>e ?_),fun hro=>hH.ro_apart hro n b h hj⟩⟩
 exact hH.inj n nm b b0 k h hg (ej ▸ hj) hb):p:=h
theorem qh9{p:Prop} (h:p:=by 
 intro A_last I_last
 conv=>whnf
 repeat' first|((first|refine aJ ci ?_|fail);conv=>whnf)|(intro t ht;cases t<;>conv=>whnf)
 ·rw[pS]at I_last
  rw[th I_last];exact fin rfl
 ·exact Fl):p:=h
theorem qia{p:Prop} (h:p:=by 
 have h0:∀ m,C.U m->False:=fun m hm=>by have:=hU m hm;omega
 refine{ os:=hT.os,tape:=hT.tape,output:=hT.output,size:=hT.size,shape:=hT.shape,frame:=hT.frame,names:=fun m hm=>(h0 m hm).elim,ros:=fun k hk=>.inl (hT.ros k hk),img:=fun nm b k h=>(by cases h),rob:=fun k hk hlt=>?_ }
 rcases hk with hk|⟨nm,b,hg,hb⟩
 ·exact hT.rob k hk hlt
 ·exact .inr (hT.img nm b k hg hb hlt)):p:=h
theorem qib{p:Prop} (h:p:=by 
 rw[hov]
 refine⟨fun n b h=>?_,fun n n' b b' k h1 h2 e1 e2=>?_,hH.ro,hH.glob⟩
 ·by_cases en:n=nm
  ·exact qhv
  ·rw[ai _ _ en]at h;exact hH.blk n b h
 ·have old:∀ n b,AHeap.get ((nm,some (.arr S els))::st.heap) n=some b->st.heap.get n=some b:=fun n b h=>by
   by_cases en:n=nm
   ·exact qew
   ·exact qhe
  exact hH.inj n n' b b' k (old n b h1) (old n' b' h2) e1 e2):p:=h
theorem VF{p:Prop} (h:p:=by 
 refine ah cW ?_ ?_ trivial
 ·exact qar
 ·exact lZ):p:=h
theorem qid{p:Prop} (h:p:=by 
 have hlt:j<k:=by omega
 obtain⟨oj,hoj⟩:=rF (ops:=ops) hm (i:=j) qad
 obtain⟨he2,g1,g2,_,_⟩:=hR.ok j oj qad hoj
 rw[hEj]at g1;cases g1
 cases g2 with
 | go he2 need hg hhi hkeys hn hrd hw hext =>
  have h1:=(hw q' hq').1
  have h2:=(hok.range.2 _ (get_mem q)).1
  have h3:=mw hR hm k j qad qad
  simp only at h2
  omega
 | no hg=>cases hq'):p:=h
theorem qie{p:Prop} (h:p:=by 
 rintro v H m ⟨rfl,h2,h3⟩
 refine⟨.d (.tup [iD 1,iD 0]),[(2,some (mg w 12 F)),(12,some (ap 4 ((af (bM w (eT rf (zP w n o) a0 R)) (2*w)).map Ps.l)))],13,?_,rfl,rfl,rfl,rfl⟩
 first|refine aO [(2,2),(12,24)] ?_ ?_ ?_ trivial|refine aI [(2,2),(12,24)] rfl rfl ?_ ?_ ?_ trivial
 ·exact gn
 ·exact qb4
 ·exact iI):p:=h
theorem qif{p:Prop} (h:p:=by 
 intro A_last I_last
 conv=>whnf
 repeat (refine O6.mk _ rfl ?_;conv=>whnf)
 intro t ht
 cases t
 rotate_left
 ·exact bu
 conv=>whnf
 repeat' first|((first|refine O6.mk _ rfl ?_|refine O8.mk _ aK ?_|refine aJ ny ?_|refine HpP.force ?_);conv=>whnf)|(intro t ht;cases t<;>conv=>whnf)
 exact fin rfl):p:=h
theorem qig{p:Prop} (h:p:=by 
 refine du ?_ ?_
 ·simp only[gE,gQ,gL,aU,gy,eF,dM,sS,nL,lw ha,nM ha,kP ha,kO,ll]
  cases v.testBit a<;>cases u.testBit a<;>cases bt v u<;>simp<;>omega
 ·simp only[gE,gL,aU,gy,nN]
  ac_rfl):p:=h
theorem qih{p:Prop} (h:p:=by 
 rw[if_neg e4]at hg
 refine .inr ⟨?_,hg⟩
 rw[bB,bB,if_neg e2,if_neg e4];rfl):p:=h
theorem I1{p:Prop} (h:p:=by 
 refine ah cW ?_ ?_ trivial
 ·exact Jz
 ·exact lZ):p:=h
theorem qij{p:Prop} (h:p:=by 
 intro A_last I_last
 conv=>whnf
 repeat' first|((first|refine O6.mk _ rfl ?_|refine O8.mk _ aK ?_|refine aJ ci ?_|refine HpP.force ?_);conv=>whnf)|(intro t ht;cases t<;>conv=>whnf)
 ·rw[pS];exact fin rfl
 ·exact Fl):p:=h
theorem qik{p:Prop} (h:p:=by 
 refine Sub.trans (tI (nm:=3) (S:=4) (dW _) rfl) ?_
 refine ah cW ?_ ?_ trivial
 ·exact gn
 ·exact lZ):p:=h
theorem qil{p:Prop} (h:p:=by 
 conv=>whnf
 repeat' first|((first|refine O6.mk _ rfl ?_|refine O8.mk _ aK ?_|refine aY h ?_|refine HpP.force ?_);conv=>whnf)
 refine fin ⟨rfl,?_⟩
 show some (Blk.ren _ (ap 4 _))=_
 rw[aE]):p:=h
theorem qim{p:Prop} (h:p:=by 
 conv=>whnf
 rcases h with rfl|⟨rfl,rfl⟩
 all_goals
  repeat' first|((first|refine jO hM (cF 12) rfl rfl ?_|refine aQ ?_|refine bF rfl ?_);conv=>whnf)
  exact fin ⟨rfl,rfl,rfl⟩):p:=h
theorem qin{p:Prop} (h:p:=by 
 intro A_last I_last
 rw[pS]at I_last
 conv=>whnf
 repeat (refine O6.mk _ rfl ?_;conv=>whnf)
 intro t ht
 cases t
 rotate_left
 ·exact bu
 conv=>whnf
 skip
 refine fin ?_
 rw[UO hR hL I_last]):p:=h
theorem qio{p:Prop} (h:p:=by 
 obtain⟨a,ha,rfl⟩:=bm.1 hv
 exact uU (jv hw (h.pt.vl a.2 (ft.2 (.inl (bm.2 ⟨a,ha,rfl⟩))))).2.1 (js qaj hw)):p:=h
theorem qip{p:Prop} (h:p:=by 
 rw[hov]
 refine{ Tr.refl (fun _ h=>h) with img:=fun n b k h1 h2 _=>?_ }
 by_cases en:n=nm
 ·subst en;exact⟨n,_,hg,h2⟩
 ·rw[ai _ _ en]at h1;exact⟨n,b,h1,h2⟩):p:=h
theorem qiq{p:Prop} (h:p:=by 
 simp only
 rcases h3 q hq with q'|q'
 ·exact qfd
 ·exact qad):p:=h
theorem qir{p:Prop} (h:p:=by 
 refine ah cW ?_ ?_ trivial
 ·exact qba
 ·exact lZ):p:=h
theorem qis{p:Prop} (h:p:=by 
 refine ah cW ?_ ?_ trivial
 ·exact qay
 ·exact lZ):p:=h
theorem qit{p:Prop} (h:p:=by 
 refine ah cW ?_ ?_ trivial
 ·exact Jz
 ·exact qa9):p:=h
theorem qiu{p:Prop} (h:p:=by 
 refine ah cW ?_ ?_ trivial
 ·exact qa1
 ·exact VB):p:=h
theorem qiv{p:Prop} (h:p:=by 
 exfalso
 rcases wp hk (dv hst.good k2) k3.symm with q|q
 ·rw[q]at a;exact a k2
 ·rw[q,CR (dv hst.good k2).1]at b;exact b k2):p:=h
theorem qiw{p:Prop} (h:p:=by 
 intro A_last I_last
 conv=>whnf
 repeat (refine O6.mk _ rfl ?_;conv=>whnf)
 intro t ht
 cases t
 rotate_left
 ·exact bu
 conv=>whnf
 skip
 exact fin rfl):p:=h
theorem qix{p:Prop} (h:p:=by 
 rw[decide_eq_false (show ¬ x=1 from fun e=>by subst e;cases ht),if_neg qaj]at hsn
 subst hsn
 refine N_i _ ?_ ?_
 ·exact hNx rfl
 ·exact yv):p:=h
theorem qiy{p:Prop} (h:p:=by 
 rw[hR.defers]
 exact(eo h2 hR.marks).symm):p:=h
theorem qiz{p:Prop} (h:p:=by 
 refine fin ?_
 rename_i hA
 have hA:uf k≠0:=A9
 have:bH ⟨k,ws,u,b,f⟩ w bits=2:=by unfold bH;rw[if_neg hA,if_pos nb]
 rw[this]):p:=h
theorem qi0{p:Prop} (h:p:=by 
 first|refine aO [(10,12)] ?_ ?_ ?_ trivial|refine aI [(10,12)] rfl rfl ?_ ?_ ?_ trivial
 ·exact qa1
 ·exact qcb
 ·exact iI):p:=h
theorem qi1{p:Prop} (h:p:=by 
 first|refine aO [(3,12)] ?_ ?_ ?_ trivial|refine aI [(3,12)] rfl rfl ?_ ?_ ?_ trivial
 ·exact qbc
 ·exact qau
 ·exact iI):p:=h
theorem qi2{p:Prop} (h:p:=by 
 first|refine aO [(3,6)] ?_ ?_ ?_ trivial|refine aI [(3,6)] rfl rfl ?_ ?_ ?_ trivial
 ·exact Jz
 ·exact qat
 ·exact iI):p:=h
theorem qi3{p:Prop} (h:p:=by 
 first|refine aO [(3,6)] ?_ ?_ ?_ trivial|refine aI [(3,6)] rfl rfl ?_ ?_ ?_ trivial
 ·exact Ch
 ·exact qa3
 ·exact iI):p:=h
theorem qi4{p:Prop} (h:p:=by 
 first|refine aO [(3,3)] ?_ ?_ ?_ trivial|refine aI [(3,3)] rfl rfl ?_ ?_ ?_ trivial
 ·exact qbc
 ·exact qau
 ·exact iI):p:=h
theorem qi5{p:Prop} (h:p:=by 
 first|refine aO [(1,4)] ?_ ?_ ?_ trivial|refine aI [(1,4)] rfl rfl ?_ ?_ ?_ trivial
 ·exact Ch
 ·exact ZY
 ·exact iI):p:=h
theorem qi6{p:Prop} (h:p:=by 
 show((_:Nat):Int)=((_:Nat):Int)
 rw[wZ,gy]
 simp only[lt23]
 cases Z.testBit k<;>cases Z'.testBit k<;>simp):p:=h
theorem qi7{p:Prop} (h:p:=by 
 show((_:Nat):Int)=((_:Nat):Int)
 rw[wZ,gy]
 simp only[lt12]
 cases X.testBit k<;>cases X'.testBit k<;>simp):p:=h
theorem qi8{p:Prop} (h:p:=by 
 have:=h.min k hs
 show o / 2^n<=k / 2^n
 rw[RF o,RF k,hz0]
 have h3:o / 2^(n+1)<=k / 2^(n+1):=this
 have:false.toNat=0:=rfl
 omega):p:=h
theorem qi9{p:Prop} (h:p:=by 
 rw[if_neg h,if_neg h]
 by_cases hr:j∈R
 ·rw[if_pos hr,if_pos ((hRm j).1 hr)]
 ·rw[if_neg hr,if_neg fun q=>hr ((hRm j).2 q)]):p:=h
theorem qja{p:Prop} (h:p:=by 
 rw[bB,bB]at hg
 by_cases e2:m=2
 ·exact qey
 ·rw[if_neg e2]at hg
  by_cases e3:m=10
  ·exact qez
  ·exact qgi):p:=h
theorem qjb{p:Prop} (h:p:=by 
 rw[bB,bB]at hg
 by_cases e2:m=2
 ·exact qey
 ·rw[if_neg e2]at hg
  by_cases e3:m=3
  ·exact qez
  ·exact qgi):p:=h
theorem qjc{p:Prop} (h:p:=by 
 intro n b h
 by_cases e:n=nm
 ·subst e;rw[ao]at h;cases h
  exact⟨(hH.blk n b0 hg).1,hb' ht⟩
 ·exact qh8):p:=h
theorem qjd{p:Prop} (h:p:=by 
 refine N_i _ ?_ ?_
 ·exact KZ h_i ht I_i
 ·exact yv):p:=h
theorem qje{p:Prop} (h:p:=by 
 refine N_j _ ?_ ?_
 ·exact cY
 ·exact qh6):p:=h
theorem qjf{p:Prop} (h:p:=by 
 refine⟨f,.inr ⟨f,rfl,h1,h2,h3,h4⟩,rfl,?_⟩
 refine ah cW ?_ ?_ trivial
 ·exact gn
 ·exact lZ):p:=h
theorem qjg{p:Prop} (h:p:=by 
 simp only[execOp,ho,Instr.sliceAt,Instr.slice,hxv]
 simp[run_underlying hT.1,hk,EOk.size hT.2,dY]):p:=h
theorem qjh{p:Prop} (h:p:=by 
 refine ah cW ?_ ?_ trivial
 ·exact qbt
 ·exact lZ):p:=h
theorem qji{p:Prop} (h:p:=by 
 refine ah cW ?_ ?_ trivial
 ·exact F7
 ·exact VB):p:=h
theorem qjj{p:Prop} (h:p:=by 
 subst e
 rw[if_neg (fun q=>h q.2),if_neg (fun q=>h q.2)]):p:=h
theorem qjk{p:Prop} (h:p:=by 
 have hz:gq W ks i=1:=by rw[hEA,if_pos G7]
 rw[if_pos qep,hat (by rw[hz];decide),hz]
 exact fin rfl):p:=h
theorem qjl{p:Prop} (h:p:=by 
 rintro⟨h1,h2,h3⟩
 rcases jJ.1 (hm.2 ⟨h1,h3⟩) with q|q
 ·exact absurd q h2
 ·exact q):p:=h
theorem qjm{p:Prop} (h:p:=by 
 rcases hk with hk|⟨nm,b,hg,hb⟩
 ·exact hH'.ro k hk
 ·exact gD (C:=C') (hH'.blk nm b hg).2 hb):p:=h
theorem qjn{p:Prop} (h:p:=by 
 subst h2
 rw[if_pos qad,if_pos qad,List.getElem?_set_self (by rw[wd0];omega)]
 simp):p:=h
theorem qjo{p:Prop} (h:p:=by 
 intro j h1 h2
 have h3:j<l.length:=A6
 simp[jI,ew h3]):p:=h
theorem qjp{p:Prop} (h:p:=by 
 refine fin ?_
 have ho:cV w 1 12=true:=by unfold cV;rw[ht];simp
 unfold bD
 rw[ho,if_pos rfl]):p:=h
theorem qjq{p:Prop} (h:p:=by 
 intro h
 have:=hm.1 (eJ _ h)
 exact⟨this.1,fun q=>haR (q ▸ h),this.2⟩):p:=h
theorem qjr{p:Prop} (h:p:=by 
 refine fin ?_
 have:bH ⟨k,ws,u,b,f⟩ w bits=3:=by unfold bH;rw[if_pos nb]
 rw[this]):p:=h
theorem qjs{p:Prop} (h:p:=by 
 refine N_i _ ?_ ?_
 ·exact cY
 ·refine ah cW ?_ ?_ trivial
  ·exact Ch
  ·exact qc5):p:=h
theorem qjt{p:Prop} (h:p:=by 
 refine N_i _ ?_ ?_
 ·exact cY
 ·refine ah cW ?_ ?_ trivial
  ·exact Ch
  ·exact qbw):p:=h
theorem qju{p:Prop} (h:p:=by 
 have:(j<i+1) ↔ (j<i):=by omega
 simp only[this]):p:=h
theorem qjv{p:Prop} (h:p:=by 
 refine⟨(),trivial,rfl,?_⟩
 refine ah cW ?_ ?_ trivial
 ·exact gn
 ·exact lZ):p:=h
theorem qjw{p:Prop} (h:p:=by 
 rename_i t ht
 rw[hguard j w t q ht]
 simp only[tU]at hg
 simpa using hg):p:=h
theorem qjx{p:Prop} (h:p:=by 
 refine fin (.inl ⟨rfl,?_⟩)
 cases es with
 | nil=>rfl
 | cons a l=>simp at ht):p:=h
end Go
