/- Package alu: Do returns what the machine's words say; memory is as it was. No condition. -/
import Derived.Test.YtbffiejpocjdmaaProg
import Derived.Test.YtbffiejpocjdmaaWd
import Derived.Test.YtbffiejpocjdmaaAluDo
import Derived.Test.YtbffiejpocjdmaaAl3
namespace Hk
open Go Go.RowKit Go.Proofs
set_option linter.unusedSimpArgs false
set_option linter.unusedVariables false
set_option maxRecDepth 100000
theorem ado_c (op : Int) (wd : Bool) (off : Int) (a b : BitVec 64) (w : World) : Calls Try.prog 10 #[.int .u8 op, .bool wd, .int .i16 off, .int .u64 (N a), .int .u64 (N b)] w fun e w' => e = .returned (.tuple #[.int .u64 (N (Alu.val (Alu.go op wd off a b))), .int .i64 (Alu.err (Alu.go op wd off a b))]) ∧ w = w' := by
  by_cases n0 : op = 0
  · subst n0
    by_cases h : off = 0
    · subst h; cases wd
      · exact ado_n_add a b w
      · exact ado_w_add a b w
    · exact ado_o_add wd off h a b w
  by_cases n16 : op = 16
  · subst n16
    by_cases h : off = 0
    · subst h; cases wd
      · exact ado_n_sub a b w
      · exact ado_w_sub a b w
    · exact ado_o_sub wd off h a b w
  by_cases n32 : op = 32
  · subst n32
    by_cases h : off = 0
    · subst h; cases wd
      · exact ado_n_mul a b w
      · exact ado_w_mul a b w
    · exact ado_o_mul wd off h a b w
  by_cases n64 : op = 64
  · subst n64
    by_cases h : off = 0
    · subst h; cases wd
      · exact ado_n_or a b w
      · exact ado_w_or a b w
    · exact ado_o_or wd off h a b w
  by_cases n80 : op = 80
  · subst n80
    by_cases h : off = 0
    · subst h; cases wd
      · exact ado_n_and a b w
      · exact ado_w_and a b w
    · exact ado_o_and wd off h a b w
  by_cases n160 : op = 160
  · subst n160
    by_cases h : off = 0
    · subst h; cases wd
      · exact ado_n_xor a b w
      · exact ado_w_xor a b w
    · exact ado_o_xor wd off h a b w
  by_cases n128 : op = 128
  · subst n128
    by_cases h : off = 0
    · subst h; cases wd
      · exact ado_n_neg a b w
      · exact ado_w_neg a b w
    · exact ado_o_neg wd off h a b w
  by_cases n96 : op = 96
  · subst n96
    by_cases h : off = 0
    · subst h; cases wd
      · exact ado_n_lsh a b w
      · exact ado_w_lsh a b w
    · exact ado_o_lsh wd off h a b w
  by_cases n112 : op = 112
  · subst n112
    by_cases h : off = 0
    · subst h; cases wd
      · exact ado_n_rsh a b w
      · exact ado_w_rsh a b w
    · exact ado_o_rsh wd off h a b w
  by_cases n192 : op = 192
  · subst n192
    by_cases h : off = 0
    · subst h; cases wd
      · exact ado_n_arsh a b w
      · exact ado_w_arsh a b w
    · exact ado_o_arsh wd off h a b w
  by_cases n176 : op = 176
  · subst n176
    by_cases h : off = 0
    · subst h; cases wd
      · exact ado_n_mov a b w
      · exact ado_w_mov a b w
    by_cases h8 : off = 8
    · subst h8; cases wd
      · exact ado_n_s8 a b w
      · exact ado_w_s8 a b w
    by_cases h16 : off = 16
    · subst h16; cases wd
      · exact ado_n_s16 a b w
      · exact ado_w_s16 a b w
    cases wd
    · exact ado_o_mov_n off h h8 h16 a b w
    · by_cases h32 : off = 32
      · subst h32; exact ado_w_s32 a b w
      · exact ado_o_mov_w off h h8 h16 h32 a b w
  by_cases n48 : op = 48
  · subst n48
    by_cases h : off = 0
    · subst h; cases wd
      · exact ado_n_div a b w
      · exact ado_w_div a b w
    by_cases h1 : off = 1
    · subst h1; cases wd
      · exact ado_n_sdiv a b w
      · exact ado_w_sdiv a b w
    exact ado_o_div wd off h h1 a b w
  by_cases n144 : op = 144
  · subst n144
    by_cases h : off = 0
    · subst h; cases wd
      · exact ado_n_mod a b w
      · exact ado_w_mod a b w
    by_cases h1 : off = 1
    · subst h1; cases wd
      · exact ado_n_smod a b w
      · exact ado_w_smod a b w
    exact ado_o_mod wd off h h1 a b w
  exact ado_else op wd off n0 n16 n32 n64 n80 n160 n128 n176 n96 n112 n192 n48 n144 a b w

end Hk
