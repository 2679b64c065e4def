import Derived.Test.YtehjjpbpdfnnfaaGreatDoorM00
import Derived.Test.YtehjjpbpdfnnfaaGreatDoorM09
namespace Go.Tz
open Go Go.AL Go.Proofs
def unL(j m:Nat):List D:=nmD (if j=0 then 1 else if j=4 then -1 else 0) (if j=1 then 1 else if j=5 then -1 else 0) (if j=2 then 1 else if j=6 then -1 else 0) (if j=3 then 1 else if j=7 then -1 else 0) m
theorem zyp{p:Nat}(hp:p<4)(m:Nat):unL (2*p) m=amL (some p) m:=by
 have:p=0\/p=1\/p=2\/p=3:=qad
 rcases this with rfl|rfl|rfl|rfl<;>rfl
theorem mul75z{k m:Nat}(hk:k<8):PC Pr GG 75 [.agg (unL k 0),amD none m] (.tup [amD none m,iD 0]):=by
 have h:((List.range 8).all fun k=>rnB 75 [.agg (unL k 0),amD none 0] (.tup [amD none 0,iD 0]))=true:=qah
 exact zf6 (List.all_eq_true.1 h k (List.mem_range.2 hk))
theorem zc4{k:Nat}(hk:k<8):PC Pr GG 165 [iD k] (.agg (unL k 0)):=by
 have h:((List.range 8).all fun k:Nat=>rnB 165 [iD k] (.agg (unL k 0)))=true:=qah
 exact zf6 (List.all_eq_true.1 h k (List.mem_range.2 hk))
end Go.Tz
