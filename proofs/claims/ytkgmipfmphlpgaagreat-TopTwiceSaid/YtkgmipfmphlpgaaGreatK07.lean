/- A part of the proof of TopTwice. No condition but each statement's own. -/
import Derived.Test.YtkgmipfmphlpgaaGreatProg
import Derived.Test.YtkgmipfmphlpgaaGreatK01
open Go Go.RowKit Go.Proofs
set_option linter.all false
set_option maxRecDepth 100000
set_option maxHeartbeats 20000000
namespace Hk
theorem Qyb (b:Nat)(x:BitVec 32)(w:World)(hc:∀ k,k<4→w.cell? ⟨b,k,none⟩=some (.int .i32 (I32 (Co.tbl k)))):Calls Tryz.prog 99 #[.slice (some ⟨b,0,none⟩) 4 4,.int .i32 (I32 x)] w (RB.a w (.int .i64 (Co.idx x))):=by
 go_enter Tryz.func99,Tryz.ntmps99;go_wp2
 go_loop [8] (fun i=>∃ k:Nat,k≤4∧i=.int .i64 k∧Hid (∀ j,j<k→(x==Co.tbl j)=false)) (fun i=>4 - (intOf i).toNat)
 case atStart =>
  exact⟨0,Y1,rfl,fun j h=>Y1⟩
 case round =>
  obtain⟨k,hk,rfl,hno⟩:=hrel;by_cases hlt:k<4
  · have hck:=hc k hlt
    clear hc;cases he:(x==Co.tbl k)
    · go_wp2
      all_goals
       go_round
       case rel=>exact⟨k+1,Y1,Yf1,fun j h=>if e:j=k then (by subst e;exact he) else hno.out j Y1⟩
       case measure=>simp[intOf];omega
    · have hi:=Lib.hid (Co.idx_at hlt hno.out he)
      go_wp2;go_ret;exact⟨by rw[hi.out];rfl,Yb⟩
  · obtain rfl:k=4:=by omega
    have hi:=Lib.hid (Co.idx_none hno.out);rw[show ((4:Nat):Int)=4 from rfl];clear hc;go_wp2;go_ret;exact⟨by rw[hi.out];rfl,Yb⟩
theorem Qgw (b:Nat)(x:BitVec 32)(w:World)(hc:∀ k,k<4→w.cell? ⟨b,k,none⟩=some (.int .i32 (I32 (Co.tbl k)))):Calls Tryz.prog 73 #[.slice (some ⟨b,0,none⟩) 4 4,.int .i32 (I32 x)] w (RB.a w (.bool (Co.has4 x))):=by
 rw[← Co.has4_eq];go_enter Tryz.func73,Tryz.ntmps73;go_wp2_with (go_at_call 99;refine Y2e ?_;intro w1 hb1);go_ret;exact⟨by simp[ge_iff_le],Yb⟩
end Hk
