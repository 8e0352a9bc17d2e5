/- The reference of arithmetic: Do; old memory is as it was. No condition. -/
import Derived.Test.YtmhkngblpojeaaaProg
import Derived.Test.YtmhkngblpojeaaaGp
import Derived.Test.YtmhkngblpojeaaaGq
import Derived.Test.YtmhkngblpojeaaaRc4
namespace Hk
open Go Go.RowKit Go.Proofs
set_option linter.unusedSimpArgs false
set_option linter.unusedVariables false
set_option maxRecDepth 100000
theorem rdo_c (op : Int) (wd : Bool) (off : Int) (a b : BitVec 64) (w : World) : Calls Try.prog 18 #[.int .u8 op, .bool wd, .int .i16 off, .int .u64 (N a), .int .u64 (N b)] w fun e w' => e = .returned (.tuple #[.int .u64 (N (Alu.val (Alu.go op wd off a b))), .int .i64 (Alu.err (Alu.go op wd off a b))]) ∧ Below w.heap.size w w' := by
  by_cases n0 : op = 0
  · subst n0
    by_cases h : off = 0
    · subst h; cases wd
      · exact rdo_n_add a b w
      · exact rdo_w_add a b w
    · cases wd
      · exact rdo_no_add off h a b w
      · exact rdo_wo_add off h a b w
  by_cases n16 : op = 16
  · subst n16
    by_cases h : off = 0
    · subst h; cases wd
      · exact rdo_n_sub a b w
      · exact rdo_w_sub a b w
    · cases wd
      · exact rdo_no_sub off h a b w
      · exact rdo_wo_sub off h a b w
  by_cases n32 : op = 32
  · subst n32
    by_cases h : off = 0
    · subst h; cases wd
      · exact rdo_n_mul a b w
      · exact rdo_w_mul a b w
    · cases wd
      · exact rdo_no_mul off h a b w
      · exact rdo_wo_mul off h a b w
  by_cases n64 : op = 64
  · subst n64
    by_cases h : off = 0
    · subst h; cases wd
      · exact rdo_n_or a b w
      · exact rdo_w_or a b w
    · cases wd
      · exact rdo_no_or off h a b w
      · exact rdo_wo_or off h a b w
  by_cases n80 : op = 80
  · subst n80
    by_cases h : off = 0
    · subst h; cases wd
      · exact rdo_n_and a b w
      · exact rdo_w_and a b w
    · cases wd
      · exact rdo_no_and off h a b w
      · exact rdo_wo_and off h a b w
  by_cases n160 : op = 160
  · subst n160
    by_cases h : off = 0
    · subst h; cases wd
      · exact rdo_n_xor a b w
      · exact rdo_w_xor a b w
    · cases wd
      · exact rdo_no_xor off h a b w
      · exact rdo_wo_xor off h a b w
  by_cases n128 : op = 128
  · subst n128
    by_cases h : off = 0
    · subst h; cases wd
      · exact rdo_n_neg a b w
      · exact rdo_w_neg a b w
    · cases wd
      · exact rdo_no_neg off h a b w
      · exact rdo_wo_neg off h a b w
  by_cases n96 : op = 96
  · subst n96
    by_cases h : off = 0
    · subst h; cases wd
      · exact rdo_n_lsh a b w
      · exact rdo_w_lsh a b w
    · cases wd
      · exact rdo_no_lsh off h a b w
      · exact rdo_wo_lsh off h a b w
  by_cases n112 : op = 112
  · subst n112
    by_cases h : off = 0
    · subst h; cases wd
      · exact rdo_n_rsh a b w
      · exact rdo_w_rsh a b w
    · cases wd
      · exact rdo_no_rsh off h a b w
      · exact rdo_wo_rsh off h a b w
  by_cases n192 : op = 192
  · subst n192
    by_cases h : off = 0
    · subst h; cases wd
      · cases hm : (Alu.dn a).msb
        · exact rdo_n_arsh0 a b hm w
        · exact rdo_n_arsh1 a b hm w
      · cases hm : a.msb
        · exact rdo_w_arsh0 a b hm w
        · exact rdo_w_arsh1 a b hm w
    · cases wd
      · exact rdo_no_arsh off h a b w
      · exact rdo_wo_arsh off h a b w
  by_cases n176 : op = 176
  · subst n176
    by_cases h : off = 0
    · subst h; cases wd
      · exact rdo_n_mov a b w
      · exact rdo_w_mov a b w
    by_cases h8 : off = 8
    · subst h8; cases wd
      · exact rdo_n_s8 a b w
      · exact rdo_w_s8 a b w
    by_cases h16 : off = 16
    · subst h16; cases wd
      · exact rdo_n_s16 a b w
      · exact rdo_w_s16 a b w
    cases wd
    · exact rdo_no_mov off h h8 h16 a b w
    · by_cases h32 : off = 32
      · subst h32; exact rdo_w_s32 a b w
      · exact rdo_wo_mov off h h8 h16 h32 a b w
  by_cases n48 : op = 48
  · subst n48
    by_cases h : off = 0
    · subst h; cases wd
      · exact rdo_n_div a b w
      · exact rdo_w_div a b w
    by_cases h1 : off = 1
    · subst h1; cases wd
      · exact rdo_n_sdiv a b w
      · exact rdo_w_sdiv a b w
    cases wd
    · exact rdo_no_div off h h1 a b w
    · exact rdo_wo_div off h h1 a b w
  by_cases n144 : op = 144
  · subst n144
    by_cases h : off = 0
    · subst h; cases wd
      · exact rdo_n_mod a b w
      · exact rdo_w_mod a b w
    by_cases h1 : off = 1
    · subst h1; cases wd
      · exact rdo_n_smod a b w
      · exact rdo_w_smod a b w
    cases wd
    · exact rdo_no_mod off h h1 a b w
    · exact rdo_wo_mod off h h1 a b w
  cases wd
  · exact rdo_nelse op off n0 n16 n32 n64 n80 n160 n128 n176 n96 n112 n192 n48 n144 a b w
  · exact rdo_welse op off n0 n16 n32 n64 n80 n160 n128 n176 n96 n112 n192 n48 n144 a b w

end Hk
