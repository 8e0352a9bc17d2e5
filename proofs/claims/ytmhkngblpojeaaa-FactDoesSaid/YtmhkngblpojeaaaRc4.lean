/- The reference of arithmetic: Do, way by way; old memory is as it was. No condition but those in each statement. -/
import Derived.Test.YtmhkngblpojeaaaProg
import Derived.Test.YtmhkngblpojeaaaGp
import Derived.Test.YtmhkngblpojeaaaGq
import Derived.Test.YtmhkngblpojeaaaGc
namespace Hk
open Go Go.RowKit Go.Proofs
set_option linter.unusedSimpArgs false
set_option linter.unusedVariables false
set_option maxRecDepth 100000
theorem by_word (x : BitVec 64) (n : Nat) (h : n ≤ 64) (h0 : 0 < n) : wrap64 (N (x % BitVec.ofNat 64 n)) = N (x % BitVec.ofNat 64 n) := by
  have e : (BitVec.ofNat 64 n).toNat = n := by rw [BitVec.toNat_ofNat]; omega
  have : (x % BitVec.ofNat 64 n).toNat < n := by rw [BitVec.toNat_umod, e]; exact Nat.mod_lt _ h0
  unfold wrap64 N
  omega

theorem rdo_w_add (a b : BitVec 64) (w : World) : Calls Try.prog 18 #[.int .u8 0, .bool true, .int .i16 0, .int .u64 (N a), .int .u64 (N b)] w fun e w' => e = .returned (.tuple #[.int .u64 (N (Alu.val (Alu.go (0) true (0) a b))), .int .i64 (Alu.err (Alu.go (0) true (0) a b))]) ∧ Below w.heap.size w w' := by
  rw [Alu.wide_add]; simp only [Alu.val_some, Alu.err_some, Alu.val_none, Alu.err_none]
  have hw : wrap64 (N (b % 64#64)) = N (b % 64#64) := by_word _ 64 (by decide) (by decide)
  go_enter Try.func18, Try.ntmps18
  go_wp2_with (first | (go_at_call 45; (with_reducible refine (cut64_c _ _).mono ?_); rintro e w1 ⟨rfl, rfl⟩) | (go_at_call 45; (with_reducible refine (cut32_c _ _).mono ?_); rintro e w1 ⟨rfl, rfl⟩))
  go_ret2
  exact ⟨rfl, (by repeat' (first | (with_reducible exact Below.refl _ _) | (with_reducible assumption) | (with_reducible refine Below.alloc ?_ ?_ _) | (with_reducible refine Below.setCell ?_ ?_ _) | (with_reducible refine Below.drew ?_) | (with_reducible refine below_dn ?_ _) | (with_reducible refine Below.trans ?_ (Below.mono (by assumption) ?_)) | go_size))⟩

theorem rdo_n_add (a b : BitVec 64) (w : World) : Calls Try.prog 18 #[.int .u8 0, .bool false, .int .i16 0, .int .u64 (N a), .int .u64 (N b)] w fun e w' => e = .returned (.tuple #[.int .u64 (N (Alu.val (Alu.go (0) false (0) a b))), .int .i64 (Alu.err (Alu.go (0) false (0) a b))]) ∧ Below w.heap.size w w' := by
  rw [Alu.rn_add]; simp only [Alu.val_some, Alu.err_some, Alu.val_none, Alu.err_none]
  have hw : wrap64 (N (Alu.up (Alu.dn b) % 32#64)) = N (Alu.up (Alu.dn b) % 32#64) := by_word _ 32 (by decide) (by decide)
  go_enter Try.func18, Try.ntmps18
  go_wp2_with (first | (go_at_call 45; (with_reducible refine (cut64_c _ _).mono ?_); rintro e w1 ⟨rfl, rfl⟩) | (go_at_call 45; (with_reducible refine (cut32_c _ _).mono ?_); rintro e w1 ⟨rfl, rfl⟩))
  go_ret2
  exact ⟨rfl, (by repeat' (first | (with_reducible exact Below.refl _ _) | (with_reducible assumption) | (with_reducible refine Below.alloc ?_ ?_ _) | (with_reducible refine Below.setCell ?_ ?_ _) | (with_reducible refine Below.drew ?_) | (with_reducible refine below_dn ?_ _) | (with_reducible refine Below.trans ?_ (Below.mono (by assumption) ?_)) | go_size))⟩

theorem rdo_wo_add (off : Int) (h : ¬ off = 0) (a b : BitVec 64) (w : World) : Calls Try.prog 18 #[.int .u8 0, .bool true, .int .i16 off, .int .u64 (N a), .int .u64 (N b)] w fun e w' => e = .returned (.tuple #[.int .u64 (N (Alu.val (Alu.go (0) true (off) a b))), .int .i64 (Alu.err (Alu.go (0) true (off) a b))]) ∧ Below w.heap.size w w' := by
  rw [Alu.go_off a b 0 true off h (by decide) (by decide) (by decide)]; simp only [Alu.val_some, Alu.err_some, Alu.val_none, Alu.err_none]
  have hw : wrap64 (N (b % 64#64)) = N (b % 64#64) := by_word _ 64 (by decide) (by decide)
  have b0 : (off == 0) = false := by simpa using h
  have d0 : (off != 0) = true := by simpa using h
  go_enter Try.func18, Try.ntmps18
  go_wp2_with (first | (go_at_call 45; (with_reducible refine (cut64_c _ _).mono ?_); rintro e w1 ⟨rfl, rfl⟩) | (go_at_call 45; (with_reducible refine (cut32_c _ _).mono ?_); rintro e w1 ⟨rfl, rfl⟩))
  go_ret2
  exact ⟨rfl, (by repeat' (first | (with_reducible exact Below.refl _ _) | (with_reducible assumption) | (with_reducible refine Below.alloc ?_ ?_ _) | (with_reducible refine Below.setCell ?_ ?_ _) | (with_reducible refine Below.drew ?_) | (with_reducible refine below_dn ?_ _) | (with_reducible refine Below.trans ?_ (Below.mono (by assumption) ?_)) | go_size))⟩

theorem rdo_no_add (off : Int) (h : ¬ off = 0) (a b : BitVec 64) (w : World) : Calls Try.prog 18 #[.int .u8 0, .bool false, .int .i16 off, .int .u64 (N a), .int .u64 (N b)] w fun e w' => e = .returned (.tuple #[.int .u64 (N (Alu.val (Alu.go (0) false (off) a b))), .int .i64 (Alu.err (Alu.go (0) false (off) a b))]) ∧ Below w.heap.size w w' := by
  rw [Alu.go_off a b 0 false off h (by decide) (by decide) (by decide)]; simp only [Alu.val_some, Alu.err_some, Alu.val_none, Alu.err_none]
  have hw : wrap64 (N (Alu.up (Alu.dn b) % 32#64)) = N (Alu.up (Alu.dn b) % 32#64) := by_word _ 32 (by decide) (by decide)
  have b0 : (off == 0) = false := by simpa using h
  have d0 : (off != 0) = true := by simpa using h
  go_enter Try.func18, Try.ntmps18
  go_wp2_with (first | (go_at_call 45; (with_reducible refine (cut64_c _ _).mono ?_); rintro e w1 ⟨rfl, rfl⟩) | (go_at_call 45; (with_reducible refine (cut32_c _ _).mono ?_); rintro e w1 ⟨rfl, rfl⟩))
  go_ret2
  exact ⟨rfl, (by repeat' (first | (with_reducible exact Below.refl _ _) | (with_reducible assumption) | (with_reducible refine Below.alloc ?_ ?_ _) | (with_reducible refine Below.setCell ?_ ?_ _) | (with_reducible refine Below.drew ?_) | (with_reducible refine below_dn ?_ _) | (with_reducible refine Below.trans ?_ (Below.mono (by assumption) ?_)) | go_size))⟩

theorem rdo_w_sub (a b : BitVec 64) (w : World) : Calls Try.prog 18 #[.int .u8 16, .bool true, .int .i16 0, .int .u64 (N a), .int .u64 (N b)] w fun e w' => e = .returned (.tuple #[.int .u64 (N (Alu.val (Alu.go (16) true (0) a b))), .int .i64 (Alu.err (Alu.go (16) true (0) a b))]) ∧ Below w.heap.size w w' := by
  rw [Alu.wide_sub]; simp only [Alu.val_some, Alu.err_some, Alu.val_none, Alu.err_none]
  have hw : wrap64 (N (b % 64#64)) = N (b % 64#64) := by_word _ 64 (by decide) (by decide)
  go_enter Try.func18, Try.ntmps18
  go_wp2_with (first | (go_at_call 45; (with_reducible refine (cut64_c _ _).mono ?_); rintro e w1 ⟨rfl, rfl⟩) | (go_at_call 45; (with_reducible refine (cut32_c _ _).mono ?_); rintro e w1 ⟨rfl, rfl⟩))
  go_ret2
  exact ⟨rfl, (by repeat' (first | (with_reducible exact Below.refl _ _) | (with_reducible assumption) | (with_reducible refine Below.alloc ?_ ?_ _) | (with_reducible refine Below.setCell ?_ ?_ _) | (with_reducible refine Below.drew ?_) | (with_reducible refine below_dn ?_ _) | (with_reducible refine Below.trans ?_ (Below.mono (by assumption) ?_)) | go_size))⟩

theorem rdo_n_sub (a b : BitVec 64) (w : World) : Calls Try.prog 18 #[.int .u8 16, .bool false, .int .i16 0, .int .u64 (N a), .int .u64 (N b)] w fun e w' => e = .returned (.tuple #[.int .u64 (N (Alu.val (Alu.go (16) false (0) a b))), .int .i64 (Alu.err (Alu.go (16) false (0) a b))]) ∧ Below w.heap.size w w' := by
  rw [Alu.rn_sub]; simp only [Alu.val_some, Alu.err_some, Alu.val_none, Alu.err_none]
  have hw : wrap64 (N (Alu.up (Alu.dn b) % 32#64)) = N (Alu.up (Alu.dn b) % 32#64) := by_word _ 32 (by decide) (by decide)
  go_enter Try.func18, Try.ntmps18
  go_wp2_with (first | (go_at_call 45; (with_reducible refine (cut64_c _ _).mono ?_); rintro e w1 ⟨rfl, rfl⟩) | (go_at_call 45; (with_reducible refine (cut32_c _ _).mono ?_); rintro e w1 ⟨rfl, rfl⟩))
  go_ret2
  exact ⟨rfl, (by repeat' (first | (with_reducible exact Below.refl _ _) | (with_reducible assumption) | (with_reducible refine Below.alloc ?_ ?_ _) | (with_reducible refine Below.setCell ?_ ?_ _) | (with_reducible refine Below.drew ?_) | (with_reducible refine below_dn ?_ _) | (with_reducible refine Below.trans ?_ (Below.mono (by assumption) ?_)) | go_size))⟩

theorem rdo_wo_sub (off : Int) (h : ¬ off = 0) (a b : BitVec 64) (w : World) : Calls Try.prog 18 #[.int .u8 16, .bool true, .int .i16 off, .int .u64 (N a), .int .u64 (N b)] w fun e w' => e = .returned (.tuple #[.int .u64 (N (Alu.val (Alu.go (16) true (off) a b))), .int .i64 (Alu.err (Alu.go (16) true (off) a b))]) ∧ Below w.heap.size w w' := by
  rw [Alu.go_off a b 16 true off h (by decide) (by decide) (by decide)]; simp only [Alu.val_some, Alu.err_some, Alu.val_none, Alu.err_none]
  have hw : wrap64 (N (b % 64#64)) = N (b % 64#64) := by_word _ 64 (by decide) (by decide)
  have b0 : (off == 0) = false := by simpa using h
  have d0 : (off != 0) = true := by simpa using h
  go_enter Try.func18, Try.ntmps18
  go_wp2_with (first | (go_at_call 45; (with_reducible refine (cut64_c _ _).mono ?_); rintro e w1 ⟨rfl, rfl⟩) | (go_at_call 45; (with_reducible refine (cut32_c _ _).mono ?_); rintro e w1 ⟨rfl, rfl⟩))
  go_ret2
  exact ⟨rfl, (by repeat' (first | (with_reducible exact Below.refl _ _) | (with_reducible assumption) | (with_reducible refine Below.alloc ?_ ?_ _) | (with_reducible refine Below.setCell ?_ ?_ _) | (with_reducible refine Below.drew ?_) | (with_reducible refine below_dn ?_ _) | (with_reducible refine Below.trans ?_ (Below.mono (by assumption) ?_)) | go_size))⟩

theorem rdo_no_sub (off : Int) (h : ¬ off = 0) (a b : BitVec 64) (w : World) : Calls Try.prog 18 #[.int .u8 16, .bool false, .int .i16 off, .int .u64 (N a), .int .u64 (N b)] w fun e w' => e = .returned (.tuple #[.int .u64 (N (Alu.val (Alu.go (16) false (off) a b))), .int .i64 (Alu.err (Alu.go (16) false (off) a b))]) ∧ Below w.heap.size w w' := by
  rw [Alu.go_off a b 16 false off h (by decide) (by decide) (by decide)]; simp only [Alu.val_some, Alu.err_some, Alu.val_none, Alu.err_none]
  have hw : wrap64 (N (Alu.up (Alu.dn b) % 32#64)) = N (Alu.up (Alu.dn b) % 32#64) := by_word _ 32 (by decide) (by decide)
  have b0 : (off == 0) = false := by simpa using h
  have d0 : (off != 0) = true := by simpa using h
  go_enter Try.func18, Try.ntmps18
  go_wp2_with (first | (go_at_call 45; (with_reducible refine (cut64_c _ _).mono ?_); rintro e w1 ⟨rfl, rfl⟩) | (go_at_call 45; (with_reducible refine (cut32_c _ _).mono ?_); rintro e w1 ⟨rfl, rfl⟩))
  go_ret2
  exact ⟨rfl, (by repeat' (first | (with_reducible exact Below.refl _ _) | (with_reducible assumption) | (with_reducible refine Below.alloc ?_ ?_ _) | (with_reducible refine Below.setCell ?_ ?_ _) | (with_reducible refine Below.drew ?_) | (with_reducible refine below_dn ?_ _) | (with_reducible refine Below.trans ?_ (Below.mono (by assumption) ?_)) | go_size))⟩

theorem rdo_w_mul (a b : BitVec 64) (w : World) : Calls Try.prog 18 #[.int .u8 32, .bool true, .int .i16 0, .int .u64 (N a), .int .u64 (N b)] w fun e w' => e = .returned (.tuple #[.int .u64 (N (Alu.val (Alu.go (32) true (0) a b))), .int .i64 (Alu.err (Alu.go (32) true (0) a b))]) ∧ Below w.heap.size w w' := by
  rw [Alu.wide_mul]; simp only [Alu.val_some, Alu.err_some, Alu.val_none, Alu.err_none]
  have hw : wrap64 (N (b % 64#64)) = N (b % 64#64) := by_word _ 64 (by decide) (by decide)
  go_enter Try.func18, Try.ntmps18
  go_wp2_with (first | (go_at_call 45; (with_reducible refine (cut64_c _ _).mono ?_); rintro e w1 ⟨rfl, rfl⟩) | (go_at_call 45; (with_reducible refine (cut32_c _ _).mono ?_); rintro e w1 ⟨rfl, rfl⟩))
  go_ret2
  exact ⟨rfl, (by repeat' (first | (with_reducible exact Below.refl _ _) | (with_reducible assumption) | (with_reducible refine Below.alloc ?_ ?_ _) | (with_reducible refine Below.setCell ?_ ?_ _) | (with_reducible refine Below.drew ?_) | (with_reducible refine below_dn ?_ _) | (with_reducible refine Below.trans ?_ (Below.mono (by assumption) ?_)) | go_size))⟩

theorem rdo_n_mul (a b : BitVec 64) (w : World) : Calls Try.prog 18 #[.int .u8 32, .bool false, .int .i16 0, .int .u64 (N a), .int .u64 (N b)] w fun e w' => e = .returned (.tuple #[.int .u64 (N (Alu.val (Alu.go (32) false (0) a b))), .int .i64 (Alu.err (Alu.go (32) false (0) a b))]) ∧ Below w.heap.size w w' := by
  rw [Alu.rn_mul]; simp only [Alu.val_some, Alu.err_some, Alu.val_none, Alu.err_none]
  have hw : wrap64 (N (Alu.up (Alu.dn b) % 32#64)) = N (Alu.up (Alu.dn b) % 32#64) := by_word _ 32 (by decide) (by decide)
  go_enter Try.func18, Try.ntmps18
  go_wp2_with (first | (go_at_call 45; (with_reducible refine (cut64_c _ _).mono ?_); rintro e w1 ⟨rfl, rfl⟩) | (go_at_call 45; (with_reducible refine (cut32_c _ _).mono ?_); rintro e w1 ⟨rfl, rfl⟩))
  go_ret2
  exact ⟨rfl, (by repeat' (first | (with_reducible exact Below.refl _ _) | (with_reducible assumption) | (with_reducible refine Below.alloc ?_ ?_ _) | (with_reducible refine Below.setCell ?_ ?_ _) | (with_reducible refine Below.drew ?_) | (with_reducible refine below_dn ?_ _) | (with_reducible refine Below.trans ?_ (Below.mono (by assumption) ?_)) | go_size))⟩

theorem rdo_wo_mul (off : Int) (h : ¬ off = 0) (a b : BitVec 64) (w : World) : Calls Try.prog 18 #[.int .u8 32, .bool true, .int .i16 off, .int .u64 (N a), .int .u64 (N b)] w fun e w' => e = .returned (.tuple #[.int .u64 (N (Alu.val (Alu.go (32) true (off) a b))), .int .i64 (Alu.err (Alu.go (32) true (off) a b))]) ∧ Below w.heap.size w w' := by
  rw [Alu.go_off a b 32 true off h (by decide) (by decide) (by decide)]; simp only [Alu.val_some, Alu.err_some, Alu.val_none, Alu.err_none]
  have hw : wrap64 (N (b % 64#64)) = N (b % 64#64) := by_word _ 64 (by decide) (by decide)
  have b0 : (off == 0) = false := by simpa using h
  have d0 : (off != 0) = true := by simpa using h
  go_enter Try.func18, Try.ntmps18
  go_wp2_with (first | (go_at_call 45; (with_reducible refine (cut64_c _ _).mono ?_); rintro e w1 ⟨rfl, rfl⟩) | (go_at_call 45; (with_reducible refine (cut32_c _ _).mono ?_); rintro e w1 ⟨rfl, rfl⟩))
  go_ret2
  exact ⟨rfl, (by repeat' (first | (with_reducible exact Below.refl _ _) | (with_reducible assumption) | (with_reducible refine Below.alloc ?_ ?_ _) | (with_reducible refine Below.setCell ?_ ?_ _) | (with_reducible refine Below.drew ?_) | (with_reducible refine below_dn ?_ _) | (with_reducible refine Below.trans ?_ (Below.mono (by assumption) ?_)) | go_size))⟩

theorem rdo_no_mul (off : Int) (h : ¬ off = 0) (a b : BitVec 64) (w : World) : Calls Try.prog 18 #[.int .u8 32, .bool false, .int .i16 off, .int .u64 (N a), .int .u64 (N b)] w fun e w' => e = .returned (.tuple #[.int .u64 (N (Alu.val (Alu.go (32) false (off) a b))), .int .i64 (Alu.err (Alu.go (32) false (off) a b))]) ∧ Below w.heap.size w w' := by
  rw [Alu.go_off a b 32 false off h (by decide) (by decide) (by decide)]; simp only [Alu.val_some, Alu.err_some, Alu.val_none, Alu.err_none]
  have hw : wrap64 (N (Alu.up (Alu.dn b) % 32#64)) = N (Alu.up (Alu.dn b) % 32#64) := by_word _ 32 (by decide) (by decide)
  have b0 : (off == 0) = false := by simpa using h
  have d0 : (off != 0) = true := by simpa using h
  go_enter Try.func18, Try.ntmps18
  go_wp2_with (first | (go_at_call 45; (with_reducible refine (cut64_c _ _).mono ?_); rintro e w1 ⟨rfl, rfl⟩) | (go_at_call 45; (with_reducible refine (cut32_c _ _).mono ?_); rintro e w1 ⟨rfl, rfl⟩))
  go_ret2
  exact ⟨rfl, (by repeat' (first | (with_reducible exact Below.refl _ _) | (with_reducible assumption) | (with_reducible refine Below.alloc ?_ ?_ _) | (with_reducible refine Below.setCell ?_ ?_ _) | (with_reducible refine Below.drew ?_) | (with_reducible refine below_dn ?_ _) | (with_reducible refine Below.trans ?_ (Below.mono (by assumption) ?_)) | go_size))⟩

theorem rdo_w_or (a b : BitVec 64) (w : World) : Calls Try.prog 18 #[.int .u8 64, .bool true, .int .i16 0, .int .u64 (N a), .int .u64 (N b)] w fun e w' => e = .returned (.tuple #[.int .u64 (N (Alu.val (Alu.go (64) true (0) a b))), .int .i64 (Alu.err (Alu.go (64) true (0) a b))]) ∧ Below w.heap.size w w' := by
  rw [Alu.wide_or]; simp only [Alu.val_some, Alu.err_some, Alu.val_none, Alu.err_none]
  have hw : wrap64 (N (b % 64#64)) = N (b % 64#64) := by_word _ 64 (by decide) (by decide)
  go_enter Try.func18, Try.ntmps18
  go_wp2_with (first | (go_at_call 45; (with_reducible refine (cut64_c _ _).mono ?_); rintro e w1 ⟨rfl, rfl⟩) | (go_at_call 45; (with_reducible refine (cut32_c _ _).mono ?_); rintro e w1 ⟨rfl, rfl⟩))
  go_ret2
  exact ⟨rfl, (by repeat' (first | (with_reducible exact Below.refl _ _) | (with_reducible assumption) | (with_reducible refine Below.alloc ?_ ?_ _) | (with_reducible refine Below.setCell ?_ ?_ _) | (with_reducible refine Below.drew ?_) | (with_reducible refine below_dn ?_ _) | (with_reducible refine Below.trans ?_ (Below.mono (by assumption) ?_)) | go_size))⟩

theorem rdo_n_or (a b : BitVec 64) (w : World) : Calls Try.prog 18 #[.int .u8 64, .bool false, .int .i16 0, .int .u64 (N a), .int .u64 (N b)] w fun e w' => e = .returned (.tuple #[.int .u64 (N (Alu.val (Alu.go (64) false (0) a b))), .int .i64 (Alu.err (Alu.go (64) false (0) a b))]) ∧ Below w.heap.size w w' := by
  rw [Alu.rn_or]; simp only [Alu.val_some, Alu.err_some, Alu.val_none, Alu.err_none]
  have hw : wrap64 (N (Alu.up (Alu.dn b) % 32#64)) = N (Alu.up (Alu.dn b) % 32#64) := by_word _ 32 (by decide) (by decide)
  go_enter Try.func18, Try.ntmps18
  go_wp2_with (first | (go_at_call 45; (with_reducible refine (cut64_c _ _).mono ?_); rintro e w1 ⟨rfl, rfl⟩) | (go_at_call 45; (with_reducible refine (cut32_c _ _).mono ?_); rintro e w1 ⟨rfl, rfl⟩))
  go_ret2
  exact ⟨rfl, (by repeat' (first | (with_reducible exact Below.refl _ _) | (with_reducible assumption) | (with_reducible refine Below.alloc ?_ ?_ _) | (with_reducible refine Below.setCell ?_ ?_ _) | (with_reducible refine Below.drew ?_) | (with_reducible refine below_dn ?_ _) | (with_reducible refine Below.trans ?_ (Below.mono (by assumption) ?_)) | go_size))⟩

theorem rdo_wo_or (off : Int) (h : ¬ off = 0) (a b : BitVec 64) (w : World) : Calls Try.prog 18 #[.int .u8 64, .bool true, .int .i16 off, .int .u64 (N a), .int .u64 (N b)] w fun e w' => e = .returned (.tuple #[.int .u64 (N (Alu.val (Alu.go (64) true (off) a b))), .int .i64 (Alu.err (Alu.go (64) true (off) a b))]) ∧ Below w.heap.size w w' := by
  rw [Alu.go_off a b 64 true off h (by decide) (by decide) (by decide)]; simp only [Alu.val_some, Alu.err_some, Alu.val_none, Alu.err_none]
  have hw : wrap64 (N (b % 64#64)) = N (b % 64#64) := by_word _ 64 (by decide) (by decide)
  have b0 : (off == 0) = false := by simpa using h
  have d0 : (off != 0) = true := by simpa using h
  go_enter Try.func18, Try.ntmps18
  go_wp2_with (first | (go_at_call 45; (with_reducible refine (cut64_c _ _).mono ?_); rintro e w1 ⟨rfl, rfl⟩) | (go_at_call 45; (with_reducible refine (cut32_c _ _).mono ?_); rintro e w1 ⟨rfl, rfl⟩))
  go_ret2
  exact ⟨rfl, (by repeat' (first | (with_reducible exact Below.refl _ _) | (with_reducible assumption) | (with_reducible refine Below.alloc ?_ ?_ _) | (with_reducible refine Below.setCell ?_ ?_ _) | (with_reducible refine Below.drew ?_) | (with_reducible refine below_dn ?_ _) | (with_reducible refine Below.trans ?_ (Below.mono (by assumption) ?_)) | go_size))⟩

theorem rdo_no_or (off : Int) (h : ¬ off = 0) (a b : BitVec 64) (w : World) : Calls Try.prog 18 #[.int .u8 64, .bool false, .int .i16 off, .int .u64 (N a), .int .u64 (N b)] w fun e w' => e = .returned (.tuple #[.int .u64 (N (Alu.val (Alu.go (64) false (off) a b))), .int .i64 (Alu.err (Alu.go (64) false (off) a b))]) ∧ Below w.heap.size w w' := by
  rw [Alu.go_off a b 64 false off h (by decide) (by decide) (by decide)]; simp only [Alu.val_some, Alu.err_some, Alu.val_none, Alu.err_none]
  have hw : wrap64 (N (Alu.up (Alu.dn b) % 32#64)) = N (Alu.up (Alu.dn b) % 32#64) := by_word _ 32 (by decide) (by decide)
  have b0 : (off == 0) = false := by simpa using h
  have d0 : (off != 0) = true := by simpa using h
  go_enter Try.func18, Try.ntmps18
  go_wp2_with (first | (go_at_call 45; (with_reducible refine (cut64_c _ _).mono ?_); rintro e w1 ⟨rfl, rfl⟩) | (go_at_call 45; (with_reducible refine (cut32_c _ _).mono ?_); rintro e w1 ⟨rfl, rfl⟩))
  go_ret2
  exact ⟨rfl, (by repeat' (first | (with_reducible exact Below.refl _ _) | (with_reducible assumption) | (with_reducible refine Below.alloc ?_ ?_ _) | (with_reducible refine Below.setCell ?_ ?_ _) | (with_reducible refine Below.drew ?_) | (with_reducible refine below_dn ?_ _) | (with_reducible refine Below.trans ?_ (Below.mono (by assumption) ?_)) | go_size))⟩

theorem rdo_w_and (a b : BitVec 64) (w : World) : Calls Try.prog 18 #[.int .u8 80, .bool true, .int .i16 0, .int .u64 (N a), .int .u64 (N b)] w fun e w' => e = .returned (.tuple #[.int .u64 (N (Alu.val (Alu.go (80) true (0) a b))), .int .i64 (Alu.err (Alu.go (80) true (0) a b))]) ∧ Below w.heap.size w w' := by
  rw [Alu.wide_and]; simp only [Alu.val_some, Alu.err_some, Alu.val_none, Alu.err_none]
  have hw : wrap64 (N (b % 64#64)) = N (b % 64#64) := by_word _ 64 (by decide) (by decide)
  go_enter Try.func18, Try.ntmps18
  go_wp2_with (first | (go_at_call 45; (with_reducible refine (cut64_c _ _).mono ?_); rintro e w1 ⟨rfl, rfl⟩) | (go_at_call 45; (with_reducible refine (cut32_c _ _).mono ?_); rintro e w1 ⟨rfl, rfl⟩))
  go_ret2
  exact ⟨rfl, (by repeat' (first | (with_reducible exact Below.refl _ _) | (with_reducible assumption) | (with_reducible refine Below.alloc ?_ ?_ _) | (with_reducible refine Below.setCell ?_ ?_ _) | (with_reducible refine Below.drew ?_) | (with_reducible refine below_dn ?_ _) | (with_reducible refine Below.trans ?_ (Below.mono (by assumption) ?_)) | go_size))⟩

theorem rdo_n_and (a b : BitVec 64) (w : World) : Calls Try.prog 18 #[.int .u8 80, .bool false, .int .i16 0, .int .u64 (N a), .int .u64 (N b)] w fun e w' => e = .returned (.tuple #[.int .u64 (N (Alu.val (Alu.go (80) false (0) a b))), .int .i64 (Alu.err (Alu.go (80) false (0) a b))]) ∧ Below w.heap.size w w' := by
  rw [Alu.rn_and]; simp only [Alu.val_some, Alu.err_some, Alu.val_none, Alu.err_none]
  have hw : wrap64 (N (Alu.up (Alu.dn b) % 32#64)) = N (Alu.up (Alu.dn b) % 32#64) := by_word _ 32 (by decide) (by decide)
  go_enter Try.func18, Try.ntmps18
  go_wp2_with (first | (go_at_call 45; (with_reducible refine (cut64_c _ _).mono ?_); rintro e w1 ⟨rfl, rfl⟩) | (go_at_call 45; (with_reducible refine (cut32_c _ _).mono ?_); rintro e w1 ⟨rfl, rfl⟩))
  go_ret2
  exact ⟨rfl, (by repeat' (first | (with_reducible exact Below.refl _ _) | (with_reducible assumption) | (with_reducible refine Below.alloc ?_ ?_ _) | (with_reducible refine Below.setCell ?_ ?_ _) | (with_reducible refine Below.drew ?_) | (with_reducible refine below_dn ?_ _) | (with_reducible refine Below.trans ?_ (Below.mono (by assumption) ?_)) | go_size))⟩

theorem rdo_wo_and (off : Int) (h : ¬ off = 0) (a b : BitVec 64) (w : World) : Calls Try.prog 18 #[.int .u8 80, .bool true, .int .i16 off, .int .u64 (N a), .int .u64 (N b)] w fun e w' => e = .returned (.tuple #[.int .u64 (N (Alu.val (Alu.go (80) true (off) a b))), .int .i64 (Alu.err (Alu.go (80) true (off) a b))]) ∧ Below w.heap.size w w' := by
  rw [Alu.go_off a b 80 true off h (by decide) (by decide) (by decide)]; simp only [Alu.val_some, Alu.err_some, Alu.val_none, Alu.err_none]
  have hw : wrap64 (N (b % 64#64)) = N (b % 64#64) := by_word _ 64 (by decide) (by decide)
  have b0 : (off == 0) = false := by simpa using h
  have d0 : (off != 0) = true := by simpa using h
  go_enter Try.func18, Try.ntmps18
  go_wp2_with (first | (go_at_call 45; (with_reducible refine (cut64_c _ _).mono ?_); rintro e w1 ⟨rfl, rfl⟩) | (go_at_call 45; (with_reducible refine (cut32_c _ _).mono ?_); rintro e w1 ⟨rfl, rfl⟩))
  go_ret2
  exact ⟨rfl, (by repeat' (first | (with_reducible exact Below.refl _ _) | (with_reducible assumption) | (with_reducible refine Below.alloc ?_ ?_ _) | (with_reducible refine Below.setCell ?_ ?_ _) | (with_reducible refine Below.drew ?_) | (with_reducible refine below_dn ?_ _) | (with_reducible refine Below.trans ?_ (Below.mono (by assumption) ?_)) | go_size))⟩

theorem rdo_no_and (off : Int) (h : ¬ off = 0) (a b : BitVec 64) (w : World) : Calls Try.prog 18 #[.int .u8 80, .bool false, .int .i16 off, .int .u64 (N a), .int .u64 (N b)] w fun e w' => e = .returned (.tuple #[.int .u64 (N (Alu.val (Alu.go (80) false (off) a b))), .int .i64 (Alu.err (Alu.go (80) false (off) a b))]) ∧ Below w.heap.size w w' := by
  rw [Alu.go_off a b 80 false off h (by decide) (by decide) (by decide)]; simp only [Alu.val_some, Alu.err_some, Alu.val_none, Alu.err_none]
  have hw : wrap64 (N (Alu.up (Alu.dn b) % 32#64)) = N (Alu.up (Alu.dn b) % 32#64) := by_word _ 32 (by decide) (by decide)
  have b0 : (off == 0) = false := by simpa using h
  have d0 : (off != 0) = true := by simpa using h
  go_enter Try.func18, Try.ntmps18
  go_wp2_with (first | (go_at_call 45; (with_reducible refine (cut64_c _ _).mono ?_); rintro e w1 ⟨rfl, rfl⟩) | (go_at_call 45; (with_reducible refine (cut32_c _ _).mono ?_); rintro e w1 ⟨rfl, rfl⟩))
  go_ret2
  exact ⟨rfl, (by repeat' (first | (with_reducible exact Below.refl _ _) | (with_reducible assumption) | (with_reducible refine Below.alloc ?_ ?_ _) | (with_reducible refine Below.setCell ?_ ?_ _) | (with_reducible refine Below.drew ?_) | (with_reducible refine below_dn ?_ _) | (with_reducible refine Below.trans ?_ (Below.mono (by assumption) ?_)) | go_size))⟩

theorem rdo_w_xor (a b : BitVec 64) (w : World) : Calls Try.prog 18 #[.int .u8 160, .bool true, .int .i16 0, .int .u64 (N a), .int .u64 (N b)] w fun e w' => e = .returned (.tuple #[.int .u64 (N (Alu.val (Alu.go (160) true (0) a b))), .int .i64 (Alu.err (Alu.go (160) true (0) a b))]) ∧ Below w.heap.size w w' := by
  rw [Alu.wide_xor]; simp only [Alu.val_some, Alu.err_some, Alu.val_none, Alu.err_none]
  have hw : wrap64 (N (b % 64#64)) = N (b % 64#64) := by_word _ 64 (by decide) (by decide)
  go_enter Try.func18, Try.ntmps18
  go_wp2_with (first | (go_at_call 45; (with_reducible refine (cut64_c _ _).mono ?_); rintro e w1 ⟨rfl, rfl⟩) | (go_at_call 45; (with_reducible refine (cut32_c _ _).mono ?_); rintro e w1 ⟨rfl, rfl⟩))
  go_ret2
  exact ⟨rfl, (by repeat' (first | (with_reducible exact Below.refl _ _) | (with_reducible assumption) | (with_reducible refine Below.alloc ?_ ?_ _) | (with_reducible refine Below.setCell ?_ ?_ _) | (with_reducible refine Below.drew ?_) | (with_reducible refine below_dn ?_ _) | (with_reducible refine Below.trans ?_ (Below.mono (by assumption) ?_)) | go_size))⟩

theorem rdo_n_xor (a b : BitVec 64) (w : World) : Calls Try.prog 18 #[.int .u8 160, .bool false, .int .i16 0, .int .u64 (N a), .int .u64 (N b)] w fun e w' => e = .returned (.tuple #[.int .u64 (N (Alu.val (Alu.go (160) false (0) a b))), .int .i64 (Alu.err (Alu.go (160) false (0) a b))]) ∧ Below w.heap.size w w' := by
  rw [Alu.rn_xor]; simp only [Alu.val_some, Alu.err_some, Alu.val_none, Alu.err_none]
  have hw : wrap64 (N (Alu.up (Alu.dn b) % 32#64)) = N (Alu.up (Alu.dn b) % 32#64) := by_word _ 32 (by decide) (by decide)
  go_enter Try.func18, Try.ntmps18
  go_wp2_with (first | (go_at_call 45; (with_reducible refine (cut64_c _ _).mono ?_); rintro e w1 ⟨rfl, rfl⟩) | (go_at_call 45; (with_reducible refine (cut32_c _ _).mono ?_); rintro e w1 ⟨rfl, rfl⟩))
  go_ret2
  exact ⟨rfl, (by repeat' (first | (with_reducible exact Below.refl _ _) | (with_reducible assumption) | (with_reducible refine Below.alloc ?_ ?_ _) | (with_reducible refine Below.setCell ?_ ?_ _) | (with_reducible refine Below.drew ?_) | (with_reducible refine below_dn ?_ _) | (with_reducible refine Below.trans ?_ (Below.mono (by assumption) ?_)) | go_size))⟩

theorem rdo_wo_xor (off : Int) (h : ¬ off = 0) (a b : BitVec 64) (w : World) : Calls Try.prog 18 #[.int .u8 160, .bool true, .int .i16 off, .int .u64 (N a), .int .u64 (N b)] w fun e w' => e = .returned (.tuple #[.int .u64 (N (Alu.val (Alu.go (160) true (off) a b))), .int .i64 (Alu.err (Alu.go (160) true (off) a b))]) ∧ Below w.heap.size w w' := by
  rw [Alu.go_off a b 160 true off h (by decide) (by decide) (by decide)]; simp only [Alu.val_some, Alu.err_some, Alu.val_none, Alu.err_none]
  have hw : wrap64 (N (b % 64#64)) = N (b % 64#64) := by_word _ 64 (by decide) (by decide)
  have b0 : (off == 0) = false := by simpa using h
  have d0 : (off != 0) = true := by simpa using h
  go_enter Try.func18, Try.ntmps18
  go_wp2_with (first | (go_at_call 45; (with_reducible refine (cut64_c _ _).mono ?_); rintro e w1 ⟨rfl, rfl⟩) | (go_at_call 45; (with_reducible refine (cut32_c _ _).mono ?_); rintro e w1 ⟨rfl, rfl⟩))
  go_ret2
  exact ⟨rfl, (by repeat' (first | (with_reducible exact Below.refl _ _) | (with_reducible assumption) | (with_reducible refine Below.alloc ?_ ?_ _) | (with_reducible refine Below.setCell ?_ ?_ _) | (with_reducible refine Below.drew ?_) | (with_reducible refine below_dn ?_ _) | (with_reducible refine Below.trans ?_ (Below.mono (by assumption) ?_)) | go_size))⟩

theorem rdo_no_xor (off : Int) (h : ¬ off = 0) (a b : BitVec 64) (w : World) : Calls Try.prog 18 #[.int .u8 160, .bool false, .int .i16 off, .int .u64 (N a), .int .u64 (N b)] w fun e w' => e = .returned (.tuple #[.int .u64 (N (Alu.val (Alu.go (160) false (off) a b))), .int .i64 (Alu.err (Alu.go (160) false (off) a b))]) ∧ Below w.heap.size w w' := by
  rw [Alu.go_off a b 160 false off h (by decide) (by decide) (by decide)]; simp only [Alu.val_some, Alu.err_some, Alu.val_none, Alu.err_none]
  have hw : wrap64 (N (Alu.up (Alu.dn b) % 32#64)) = N (Alu.up (Alu.dn b) % 32#64) := by_word _ 32 (by decide) (by decide)
  have b0 : (off == 0) = false := by simpa using h
  have d0 : (off != 0) = true := by simpa using h
  go_enter Try.func18, Try.ntmps18
  go_wp2_with (first | (go_at_call 45; (with_reducible refine (cut64_c _ _).mono ?_); rintro e w1 ⟨rfl, rfl⟩) | (go_at_call 45; (with_reducible refine (cut32_c _ _).mono ?_); rintro e w1 ⟨rfl, rfl⟩))
  go_ret2
  exact ⟨rfl, (by repeat' (first | (with_reducible exact Below.refl _ _) | (with_reducible assumption) | (with_reducible refine Below.alloc ?_ ?_ _) | (with_reducible refine Below.setCell ?_ ?_ _) | (with_reducible refine Below.drew ?_) | (with_reducible refine below_dn ?_ _) | (with_reducible refine Below.trans ?_ (Below.mono (by assumption) ?_)) | go_size))⟩

theorem rdo_w_neg (a b : BitVec 64) (w : World) : Calls Try.prog 18 #[.int .u8 128, .bool true, .int .i16 0, .int .u64 (N a), .int .u64 (N b)] w fun e w' => e = .returned (.tuple #[.int .u64 (N (Alu.val (Alu.go (128) true (0) a b))), .int .i64 (Alu.err (Alu.go (128) true (0) a b))]) ∧ Below w.heap.size w w' := by
  rw [Alu.wide_neg]; simp only [Alu.val_some, Alu.err_some, Alu.val_none, Alu.err_none]
  have hw : wrap64 (N (b % 64#64)) = N (b % 64#64) := by_word _ 64 (by decide) (by decide)
  go_enter Try.func18, Try.ntmps18
  go_wp2_with (first | (go_at_call 45; (with_reducible refine (cut64_c _ _).mono ?_); rintro e w1 ⟨rfl, rfl⟩) | (go_at_call 45; (with_reducible refine (cut32_c _ _).mono ?_); rintro e w1 ⟨rfl, rfl⟩))
  go_ret2
  exact ⟨rfl, (by repeat' (first | (with_reducible exact Below.refl _ _) | (with_reducible assumption) | (with_reducible refine Below.alloc ?_ ?_ _) | (with_reducible refine Below.setCell ?_ ?_ _) | (with_reducible refine Below.drew ?_) | (with_reducible refine below_dn ?_ _) | (with_reducible refine Below.trans ?_ (Below.mono (by assumption) ?_)) | go_size))⟩

theorem rdo_n_neg (a b : BitVec 64) (w : World) : Calls Try.prog 18 #[.int .u8 128, .bool false, .int .i16 0, .int .u64 (N a), .int .u64 (N b)] w fun e w' => e = .returned (.tuple #[.int .u64 (N (Alu.val (Alu.go (128) false (0) a b))), .int .i64 (Alu.err (Alu.go (128) false (0) a b))]) ∧ Below w.heap.size w w' := by
  rw [Alu.rn_neg]; simp only [Alu.val_some, Alu.err_some, Alu.val_none, Alu.err_none]
  have hw : wrap64 (N (Alu.up (Alu.dn b) % 32#64)) = N (Alu.up (Alu.dn b) % 32#64) := by_word _ 32 (by decide) (by decide)
  go_enter Try.func18, Try.ntmps18
  go_wp2_with (first | (go_at_call 45; (with_reducible refine (cut64_c _ _).mono ?_); rintro e w1 ⟨rfl, rfl⟩) | (go_at_call 45; (with_reducible refine (cut32_c _ _).mono ?_); rintro e w1 ⟨rfl, rfl⟩))
  go_ret2
  exact ⟨rfl, (by repeat' (first | (with_reducible exact Below.refl _ _) | (with_reducible assumption) | (with_reducible refine Below.alloc ?_ ?_ _) | (with_reducible refine Below.setCell ?_ ?_ _) | (with_reducible refine Below.drew ?_) | (with_reducible refine below_dn ?_ _) | (with_reducible refine Below.trans ?_ (Below.mono (by assumption) ?_)) | go_size))⟩

theorem rdo_wo_neg (off : Int) (h : ¬ off = 0) (a b : BitVec 64) (w : World) : Calls Try.prog 18 #[.int .u8 128, .bool true, .int .i16 off, .int .u64 (N a), .int .u64 (N b)] w fun e w' => e = .returned (.tuple #[.int .u64 (N (Alu.val (Alu.go (128) true (off) a b))), .int .i64 (Alu.err (Alu.go (128) true (off) a b))]) ∧ Below w.heap.size w w' := by
  rw [Alu.go_off a b 128 true off h (by decide) (by decide) (by decide)]; simp only [Alu.val_some, Alu.err_some, Alu.val_none, Alu.err_none]
  have hw : wrap64 (N (b % 64#64)) = N (b % 64#64) := by_word _ 64 (by decide) (by decide)
  have b0 : (off == 0) = false := by simpa using h
  have d0 : (off != 0) = true := by simpa using h
  go_enter Try.func18, Try.ntmps18
  go_wp2_with (first | (go_at_call 45; (with_reducible refine (cut64_c _ _).mono ?_); rintro e w1 ⟨rfl, rfl⟩) | (go_at_call 45; (with_reducible refine (cut32_c _ _).mono ?_); rintro e w1 ⟨rfl, rfl⟩))
  go_ret2
  exact ⟨rfl, (by repeat' (first | (with_reducible exact Below.refl _ _) | (with_reducible assumption) | (with_reducible refine Below.alloc ?_ ?_ _) | (with_reducible refine Below.setCell ?_ ?_ _) | (with_reducible refine Below.drew ?_) | (with_reducible refine below_dn ?_ _) | (with_reducible refine Below.trans ?_ (Below.mono (by assumption) ?_)) | go_size))⟩

theorem rdo_no_neg (off : Int) (h : ¬ off = 0) (a b : BitVec 64) (w : World) : Calls Try.prog 18 #[.int .u8 128, .bool false, .int .i16 off, .int .u64 (N a), .int .u64 (N b)] w fun e w' => e = .returned (.tuple #[.int .u64 (N (Alu.val (Alu.go (128) false (off) a b))), .int .i64 (Alu.err (Alu.go (128) false (off) a b))]) ∧ Below w.heap.size w w' := by
  rw [Alu.go_off a b 128 false off h (by decide) (by decide) (by decide)]; simp only [Alu.val_some, Alu.err_some, Alu.val_none, Alu.err_none]
  have hw : wrap64 (N (Alu.up (Alu.dn b) % 32#64)) = N (Alu.up (Alu.dn b) % 32#64) := by_word _ 32 (by decide) (by decide)
  have b0 : (off == 0) = false := by simpa using h
  have d0 : (off != 0) = true := by simpa using h
  go_enter Try.func18, Try.ntmps18
  go_wp2_with (first | (go_at_call 45; (with_reducible refine (cut64_c _ _).mono ?_); rintro e w1 ⟨rfl, rfl⟩) | (go_at_call 45; (with_reducible refine (cut32_c _ _).mono ?_); rintro e w1 ⟨rfl, rfl⟩))
  go_ret2
  exact ⟨rfl, (by repeat' (first | (with_reducible exact Below.refl _ _) | (with_reducible assumption) | (with_reducible refine Below.alloc ?_ ?_ _) | (with_reducible refine Below.setCell ?_ ?_ _) | (with_reducible refine Below.drew ?_) | (with_reducible refine below_dn ?_ _) | (with_reducible refine Below.trans ?_ (Below.mono (by assumption) ?_)) | go_size))⟩

theorem rdo_w_lsh (a b : BitVec 64) (w : World) : Calls Try.prog 18 #[.int .u8 96, .bool true, .int .i16 0, .int .u64 (N a), .int .u64 (N b)] w fun e w' => e = .returned (.tuple #[.int .u64 (N (Alu.val (Alu.go (96) true (0) a b))), .int .i64 (Alu.err (Alu.go (96) true (0) a b))]) ∧ Below w.heap.size w w' := by
  rw [Alu.wide_lsh]; simp only [Alu.val_some, Alu.err_some, Alu.val_none, Alu.err_none]
  have hw : wrap64 (N (b % 64#64)) = N (b % 64#64) := by_word _ 64 (by decide) (by decide)
  go_enter Try.func18, Try.ntmps18
  go_wp2_with (first | (go_at_call 45; (with_reducible refine (cut64_c _ _).mono ?_); rintro e w1 ⟨rfl, rfl⟩) | (go_at_call 45; (with_reducible refine (cut32_c _ _).mono ?_); rintro e w1 ⟨rfl, rfl⟩))
  go_ret2
  exact ⟨rfl, (by repeat' (first | (with_reducible exact Below.refl _ _) | (with_reducible assumption) | (with_reducible refine Below.alloc ?_ ?_ _) | (with_reducible refine Below.setCell ?_ ?_ _) | (with_reducible refine Below.drew ?_) | (with_reducible refine below_dn ?_ _) | (with_reducible refine Below.trans ?_ (Below.mono (by assumption) ?_)) | go_size))⟩

theorem rdo_n_lsh (a b : BitVec 64) (w : World) : Calls Try.prog 18 #[.int .u8 96, .bool false, .int .i16 0, .int .u64 (N a), .int .u64 (N b)] w fun e w' => e = .returned (.tuple #[.int .u64 (N (Alu.val (Alu.go (96) false (0) a b))), .int .i64 (Alu.err (Alu.go (96) false (0) a b))]) ∧ Below w.heap.size w w' := by
  rw [Alu.rn_lsh]; simp only [Alu.val_some, Alu.err_some, Alu.val_none, Alu.err_none]
  have hw : wrap64 (N (Alu.up (Alu.dn b) % 32#64)) = N (Alu.up (Alu.dn b) % 32#64) := by_word _ 32 (by decide) (by decide)
  go_enter Try.func18, Try.ntmps18
  go_wp2_with (first | (go_at_call 45; (with_reducible refine (cut64_c _ _).mono ?_); rintro e w1 ⟨rfl, rfl⟩) | (go_at_call 45; (with_reducible refine (cut32_c _ _).mono ?_); rintro e w1 ⟨rfl, rfl⟩))
  go_ret2
  exact ⟨rfl, (by repeat' (first | (with_reducible exact Below.refl _ _) | (with_reducible assumption) | (with_reducible refine Below.alloc ?_ ?_ _) | (with_reducible refine Below.setCell ?_ ?_ _) | (with_reducible refine Below.drew ?_) | (with_reducible refine below_dn ?_ _) | (with_reducible refine Below.trans ?_ (Below.mono (by assumption) ?_)) | go_size))⟩

theorem rdo_wo_lsh (off : Int) (h : ¬ off = 0) (a b : BitVec 64) (w : World) : Calls Try.prog 18 #[.int .u8 96, .bool true, .int .i16 off, .int .u64 (N a), .int .u64 (N b)] w fun e w' => e = .returned (.tuple #[.int .u64 (N (Alu.val (Alu.go (96) true (off) a b))), .int .i64 (Alu.err (Alu.go (96) true (off) a b))]) ∧ Below w.heap.size w w' := by
  rw [Alu.go_off a b 96 true off h (by decide) (by decide) (by decide)]; simp only [Alu.val_some, Alu.err_some, Alu.val_none, Alu.err_none]
  have hw : wrap64 (N (b % 64#64)) = N (b % 64#64) := by_word _ 64 (by decide) (by decide)
  have b0 : (off == 0) = false := by simpa using h
  have d0 : (off != 0) = true := by simpa using h
  go_enter Try.func18, Try.ntmps18
  go_wp2_with (first | (go_at_call 45; (with_reducible refine (cut64_c _ _).mono ?_); rintro e w1 ⟨rfl, rfl⟩) | (go_at_call 45; (with_reducible refine (cut32_c _ _).mono ?_); rintro e w1 ⟨rfl, rfl⟩))
  go_ret2
  exact ⟨rfl, (by repeat' (first | (with_reducible exact Below.refl _ _) | (with_reducible assumption) | (with_reducible refine Below.alloc ?_ ?_ _) | (with_reducible refine Below.setCell ?_ ?_ _) | (with_reducible refine Below.drew ?_) | (with_reducible refine below_dn ?_ _) | (with_reducible refine Below.trans ?_ (Below.mono (by assumption) ?_)) | go_size))⟩

theorem rdo_no_lsh (off : Int) (h : ¬ off = 0) (a b : BitVec 64) (w : World) : Calls Try.prog 18 #[.int .u8 96, .bool false, .int .i16 off, .int .u64 (N a), .int .u64 (N b)] w fun e w' => e = .returned (.tuple #[.int .u64 (N (Alu.val (Alu.go (96) false (off) a b))), .int .i64 (Alu.err (Alu.go (96) false (off) a b))]) ∧ Below w.heap.size w w' := by
  rw [Alu.go_off a b 96 false off h (by decide) (by decide) (by decide)]; simp only [Alu.val_some, Alu.err_some, Alu.val_none, Alu.err_none]
  have hw : wrap64 (N (Alu.up (Alu.dn b) % 32#64)) = N (Alu.up (Alu.dn b) % 32#64) := by_word _ 32 (by decide) (by decide)
  have b0 : (off == 0) = false := by simpa using h
  have d0 : (off != 0) = true := by simpa using h
  go_enter Try.func18, Try.ntmps18
  go_wp2_with (first | (go_at_call 45; (with_reducible refine (cut64_c _ _).mono ?_); rintro e w1 ⟨rfl, rfl⟩) | (go_at_call 45; (with_reducible refine (cut32_c _ _).mono ?_); rintro e w1 ⟨rfl, rfl⟩))
  go_ret2
  exact ⟨rfl, (by repeat' (first | (with_reducible exact Below.refl _ _) | (with_reducible assumption) | (with_reducible refine Below.alloc ?_ ?_ _) | (with_reducible refine Below.setCell ?_ ?_ _) | (with_reducible refine Below.drew ?_) | (with_reducible refine below_dn ?_ _) | (with_reducible refine Below.trans ?_ (Below.mono (by assumption) ?_)) | go_size))⟩

theorem rdo_w_rsh (a b : BitVec 64) (w : World) : Calls Try.prog 18 #[.int .u8 112, .bool true, .int .i16 0, .int .u64 (N a), .int .u64 (N b)] w fun e w' => e = .returned (.tuple #[.int .u64 (N (Alu.val (Alu.go (112) true (0) a b))), .int .i64 (Alu.err (Alu.go (112) true (0) a b))]) ∧ Below w.heap.size w w' := by
  rw [Alu.wide_rsh]; simp only [Alu.val_some, Alu.err_some, Alu.val_none, Alu.err_none]
  have hw : wrap64 (N (b % 64#64)) = N (b % 64#64) := by_word _ 64 (by decide) (by decide)
  go_enter Try.func18, Try.ntmps18
  go_wp2_with (first | (go_at_call 45; (with_reducible refine (cut64_c _ _).mono ?_); rintro e w1 ⟨rfl, rfl⟩) | (go_at_call 45; (with_reducible refine (cut32_c _ _).mono ?_); rintro e w1 ⟨rfl, rfl⟩))
  go_ret2
  exact ⟨rfl, (by repeat' (first | (with_reducible exact Below.refl _ _) | (with_reducible assumption) | (with_reducible refine Below.alloc ?_ ?_ _) | (with_reducible refine Below.setCell ?_ ?_ _) | (with_reducible refine Below.drew ?_) | (with_reducible refine below_dn ?_ _) | (with_reducible refine Below.trans ?_ (Below.mono (by assumption) ?_)) | go_size))⟩

theorem rdo_n_rsh (a b : BitVec 64) (w : World) : Calls Try.prog 18 #[.int .u8 112, .bool false, .int .i16 0, .int .u64 (N a), .int .u64 (N b)] w fun e w' => e = .returned (.tuple #[.int .u64 (N (Alu.val (Alu.go (112) false (0) a b))), .int .i64 (Alu.err (Alu.go (112) false (0) a b))]) ∧ Below w.heap.size w w' := by
  rw [Alu.rn_rsh]; simp only [Alu.val_some, Alu.err_some, Alu.val_none, Alu.err_none]
  have hw : wrap64 (N (Alu.up (Alu.dn b) % 32#64)) = N (Alu.up (Alu.dn b) % 32#64) := by_word _ 32 (by decide) (by decide)
  go_enter Try.func18, Try.ntmps18
  go_wp2_with (first | (go_at_call 45; (with_reducible refine (cut64_c _ _).mono ?_); rintro e w1 ⟨rfl, rfl⟩) | (go_at_call 45; (with_reducible refine (cut32_c _ _).mono ?_); rintro e w1 ⟨rfl, rfl⟩))
  go_ret2
  exact ⟨rfl, (by repeat' (first | (with_reducible exact Below.refl _ _) | (with_reducible assumption) | (with_reducible refine Below.alloc ?_ ?_ _) | (with_reducible refine Below.setCell ?_ ?_ _) | (with_reducible refine Below.drew ?_) | (with_reducible refine below_dn ?_ _) | (with_reducible refine Below.trans ?_ (Below.mono (by assumption) ?_)) | go_size))⟩

theorem rdo_wo_rsh (off : Int) (h : ¬ off = 0) (a b : BitVec 64) (w : World) : Calls Try.prog 18 #[.int .u8 112, .bool true, .int .i16 off, .int .u64 (N a), .int .u64 (N b)] w fun e w' => e = .returned (.tuple #[.int .u64 (N (Alu.val (Alu.go (112) true (off) a b))), .int .i64 (Alu.err (Alu.go (112) true (off) a b))]) ∧ Below w.heap.size w w' := by
  rw [Alu.go_off a b 112 true off h (by decide) (by decide) (by decide)]; simp only [Alu.val_some, Alu.err_some, Alu.val_none, Alu.err_none]
  have hw : wrap64 (N (b % 64#64)) = N (b % 64#64) := by_word _ 64 (by decide) (by decide)
  have b0 : (off == 0) = false := by simpa using h
  have d0 : (off != 0) = true := by simpa using h
  go_enter Try.func18, Try.ntmps18
  go_wp2_with (first | (go_at_call 45; (with_reducible refine (cut64_c _ _).mono ?_); rintro e w1 ⟨rfl, rfl⟩) | (go_at_call 45; (with_reducible refine (cut32_c _ _).mono ?_); rintro e w1 ⟨rfl, rfl⟩))
  go_ret2
  exact ⟨rfl, (by repeat' (first | (with_reducible exact Below.refl _ _) | (with_reducible assumption) | (with_reducible refine Below.alloc ?_ ?_ _) | (with_reducible refine Below.setCell ?_ ?_ _) | (with_reducible refine Below.drew ?_) | (with_reducible refine below_dn ?_ _) | (with_reducible refine Below.trans ?_ (Below.mono (by assumption) ?_)) | go_size))⟩

theorem rdo_no_rsh (off : Int) (h : ¬ off = 0) (a b : BitVec 64) (w : World) : Calls Try.prog 18 #[.int .u8 112, .bool false, .int .i16 off, .int .u64 (N a), .int .u64 (N b)] w fun e w' => e = .returned (.tuple #[.int .u64 (N (Alu.val (Alu.go (112) false (off) a b))), .int .i64 (Alu.err (Alu.go (112) false (off) a b))]) ∧ Below w.heap.size w w' := by
  rw [Alu.go_off a b 112 false off h (by decide) (by decide) (by decide)]; simp only [Alu.val_some, Alu.err_some, Alu.val_none, Alu.err_none]
  have hw : wrap64 (N (Alu.up (Alu.dn b) % 32#64)) = N (Alu.up (Alu.dn b) % 32#64) := by_word _ 32 (by decide) (by decide)
  have b0 : (off == 0) = false := by simpa using h
  have d0 : (off != 0) = true := by simpa using h
  go_enter Try.func18, Try.ntmps18
  go_wp2_with (first | (go_at_call 45; (with_reducible refine (cut64_c _ _).mono ?_); rintro e w1 ⟨rfl, rfl⟩) | (go_at_call 45; (with_reducible refine (cut32_c _ _).mono ?_); rintro e w1 ⟨rfl, rfl⟩))
  go_ret2
  exact ⟨rfl, (by repeat' (first | (with_reducible exact Below.refl _ _) | (with_reducible assumption) | (with_reducible refine Below.alloc ?_ ?_ _) | (with_reducible refine Below.setCell ?_ ?_ _) | (with_reducible refine Below.drew ?_) | (with_reducible refine below_dn ?_ _) | (with_reducible refine Below.trans ?_ (Below.mono (by assumption) ?_)) | go_size))⟩

theorem rdo_w_mov (a b : BitVec 64) (w : World) : Calls Try.prog 18 #[.int .u8 176, .bool true, .int .i16 0, .int .u64 (N a), .int .u64 (N b)] w fun e w' => e = .returned (.tuple #[.int .u64 (N (Alu.val (Alu.go (176) true (0) a b))), .int .i64 (Alu.err (Alu.go (176) true (0) a b))]) ∧ Below w.heap.size w w' := by
  rw [Alu.wide_mov]; simp only [Alu.val_some, Alu.err_some, Alu.val_none, Alu.err_none]
  have hw : wrap64 (N (b % 64#64)) = N (b % 64#64) := by_word _ 64 (by decide) (by decide)
  go_enter Try.func18, Try.ntmps18
  go_wp2_with (first | (go_at_call 45; (with_reducible refine (cut64_c _ _).mono ?_); rintro e w1 ⟨rfl, rfl⟩) | (go_at_call 45; (with_reducible refine (cut32_c _ _).mono ?_); rintro e w1 ⟨rfl, rfl⟩))
  go_ret2
  exact ⟨rfl, (by repeat' (first | (with_reducible exact Below.refl _ _) | (with_reducible assumption) | (with_reducible refine Below.alloc ?_ ?_ _) | (with_reducible refine Below.setCell ?_ ?_ _) | (with_reducible refine Below.drew ?_) | (with_reducible refine below_dn ?_ _) | (with_reducible refine Below.trans ?_ (Below.mono (by assumption) ?_)) | go_size))⟩

theorem rdo_n_mov (a b : BitVec 64) (w : World) : Calls Try.prog 18 #[.int .u8 176, .bool false, .int .i16 0, .int .u64 (N a), .int .u64 (N b)] w fun e w' => e = .returned (.tuple #[.int .u64 (N (Alu.val (Alu.go (176) false (0) a b))), .int .i64 (Alu.err (Alu.go (176) false (0) a b))]) ∧ Below w.heap.size w w' := by
  rw [Alu.rn_mov]; simp only [Alu.val_some, Alu.err_some, Alu.val_none, Alu.err_none]
  have hw : wrap64 (N (Alu.up (Alu.dn b) % 32#64)) = N (Alu.up (Alu.dn b) % 32#64) := by_word _ 32 (by decide) (by decide)
  go_enter Try.func18, Try.ntmps18
  go_wp2_with (first | (go_at_call 45; (with_reducible refine (cut64_c _ _).mono ?_); rintro e w1 ⟨rfl, rfl⟩) | (go_at_call 45; (with_reducible refine (cut32_c _ _).mono ?_); rintro e w1 ⟨rfl, rfl⟩))
  go_ret2
  exact ⟨rfl, (by repeat' (first | (with_reducible exact Below.refl _ _) | (with_reducible assumption) | (with_reducible refine Below.alloc ?_ ?_ _) | (with_reducible refine Below.setCell ?_ ?_ _) | (with_reducible refine Below.drew ?_) | (with_reducible refine below_dn ?_ _) | (with_reducible refine Below.trans ?_ (Below.mono (by assumption) ?_)) | go_size))⟩

theorem rdo_w_arsh0 (a b : BitVec 64) (h : a.msb = false) (w : World) : Calls Try.prog 18 #[.int .u8 192, .bool true, .int .i16 0, .int .u64 (N a), .int .u64 (N b)] w fun e w' => e = .returned (.tuple #[.int .u64 (N (Alu.val (Alu.go (192) true (0) a b))), .int .i64 (Alu.err (Alu.go (192) true (0) a b))]) ∧ Below w.heap.size w w' := by
  rw [Alu.wide_arsh0 a b h]; simp only [Alu.val_some, Alu.err_some, Alu.val_none, Alu.err_none]
  have hw : wrap64 (N (b % 64#64)) = N (b % 64#64) := by_word _ 64 (by decide) (by decide)
  go_enter Try.func18, Try.ntmps18
  go_wp2_with (first | (go_at_call 45; (with_reducible refine (cut64_c _ _).mono ?_); rintro e w1 ⟨rfl, rfl⟩) | (go_at_call 45; (with_reducible refine (cut32_c _ _).mono ?_); rintro e w1 ⟨rfl, rfl⟩) | (go_at_call 48; (with_reducible refine (neg64_c _ _).mono ?_); rintro e w1 ⟨rfl, rfl⟩) | (go_at_call 48; (with_reducible refine (neg32_c _ _).mono ?_); rintro e w1 ⟨rfl, rfl⟩))
  go_ret2
  exact ⟨rfl, (by repeat' (first | (with_reducible exact Below.refl _ _) | (with_reducible assumption) | (with_reducible refine Below.alloc ?_ ?_ _) | (with_reducible refine Below.setCell ?_ ?_ _) | (with_reducible refine Below.drew ?_) | (with_reducible refine below_dn ?_ _) | (with_reducible refine Below.trans ?_ (Below.mono (by assumption) ?_)) | go_size))⟩

theorem rdo_n_arsh0 (a b : BitVec 64) (h : (Alu.dn a).msb = false) (w : World) : Calls Try.prog 18 #[.int .u8 192, .bool false, .int .i16 0, .int .u64 (N a), .int .u64 (N b)] w fun e w' => e = .returned (.tuple #[.int .u64 (N (Alu.val (Alu.go (192) false (0) a b))), .int .i64 (Alu.err (Alu.go (192) false (0) a b))]) ∧ Below w.heap.size w w' := by
  rw [Alu.rn_arsh0 a b h]; simp only [Alu.val_some, Alu.err_some, Alu.val_none, Alu.err_none]
  have hw : wrap64 (N (Alu.up (Alu.dn b) % 32#64)) = N (Alu.up (Alu.dn b) % 32#64) := by_word _ 32 (by decide) (by decide)
  go_enter Try.func18, Try.ntmps18
  go_wp2_with (first | (go_at_call 45; (with_reducible refine (cut64_c _ _).mono ?_); rintro e w1 ⟨rfl, rfl⟩) | (go_at_call 45; (with_reducible refine (cut32_c _ _).mono ?_); rintro e w1 ⟨rfl, rfl⟩) | (go_at_call 48; (with_reducible refine (neg64_c _ _).mono ?_); rintro e w1 ⟨rfl, rfl⟩) | (go_at_call 48; (with_reducible refine (neg32_c _ _).mono ?_); rintro e w1 ⟨rfl, rfl⟩))
  go_ret2
  exact ⟨rfl, (by repeat' (first | (with_reducible exact Below.refl _ _) | (with_reducible assumption) | (with_reducible refine Below.alloc ?_ ?_ _) | (with_reducible refine Below.setCell ?_ ?_ _) | (with_reducible refine Below.drew ?_) | (with_reducible refine below_dn ?_ _) | (with_reducible refine Below.trans ?_ (Below.mono (by assumption) ?_)) | go_size))⟩

theorem rdo_w_arsh1 (a b : BitVec 64) (h : a.msb = true) (w : World) : Calls Try.prog 18 #[.int .u8 192, .bool true, .int .i16 0, .int .u64 (N a), .int .u64 (N b)] w fun e w' => e = .returned (.tuple #[.int .u64 (N (Alu.val (Alu.go (192) true (0) a b))), .int .i64 (Alu.err (Alu.go (192) true (0) a b))]) ∧ Below w.heap.size w w' := by
  rw [Alu.wide_arsh1 a b h]; simp only [Alu.val_some, Alu.err_some, Alu.val_none, Alu.err_none]
  have hw : wrap64 (N (b % 64#64)) = N (b % 64#64) := by_word _ 64 (by decide) (by decide)
  go_enter Try.func18, Try.ntmps18
  go_wp2_with (first | (go_at_call 45; (with_reducible refine (cut64_c _ _).mono ?_); rintro e w1 ⟨rfl, rfl⟩) | (go_at_call 45; (with_reducible refine (cut32_c _ _).mono ?_); rintro e w1 ⟨rfl, rfl⟩) | (go_at_call 48; (with_reducible refine (neg64_c _ _).mono ?_); rintro e w1 ⟨rfl, rfl⟩) | (go_at_call 48; (with_reducible refine (neg32_c _ _).mono ?_); rintro e w1 ⟨rfl, rfl⟩))
  go_ret2
  exact ⟨rfl, (by repeat' (first | (with_reducible exact Below.refl _ _) | (with_reducible assumption) | (with_reducible refine Below.alloc ?_ ?_ _) | (with_reducible refine Below.setCell ?_ ?_ _) | (with_reducible refine Below.drew ?_) | (with_reducible refine below_dn ?_ _) | (with_reducible refine Below.trans ?_ (Below.mono (by assumption) ?_)) | go_size))⟩

theorem rdo_n_arsh1 (a b : BitVec 64) (h : (Alu.dn a).msb = true) (w : World) : Calls Try.prog 18 #[.int .u8 192, .bool false, .int .i16 0, .int .u64 (N a), .int .u64 (N b)] w fun e w' => e = .returned (.tuple #[.int .u64 (N (Alu.val (Alu.go (192) false (0) a b))), .int .i64 (Alu.err (Alu.go (192) false (0) a b))]) ∧ Below w.heap.size w w' := by
  rw [Alu.rn_arsh1 a b h]; simp only [Alu.val_some, Alu.err_some, Alu.val_none, Alu.err_none]
  have hw : wrap64 (N (Alu.up (Alu.dn b) % 32#64)) = N (Alu.up (Alu.dn b) % 32#64) := by_word _ 32 (by decide) (by decide)
  go_enter Try.func18, Try.ntmps18
  go_wp2_with (first | (go_at_call 45; (with_reducible refine (cut64_c _ _).mono ?_); rintro e w1 ⟨rfl, rfl⟩) | (go_at_call 45; (with_reducible refine (cut32_c _ _).mono ?_); rintro e w1 ⟨rfl, rfl⟩) | (go_at_call 48; (with_reducible refine (neg64_c _ _).mono ?_); rintro e w1 ⟨rfl, rfl⟩) | (go_at_call 48; (with_reducible refine (neg32_c _ _).mono ?_); rintro e w1 ⟨rfl, rfl⟩))
  go_ret2
  exact ⟨rfl, (by repeat' (first | (with_reducible exact Below.refl _ _) | (with_reducible assumption) | (with_reducible refine Below.alloc ?_ ?_ _) | (with_reducible refine Below.setCell ?_ ?_ _) | (with_reducible refine Below.drew ?_) | (with_reducible refine below_dn ?_ _) | (with_reducible refine Below.trans ?_ (Below.mono (by assumption) ?_)) | go_size))⟩

theorem rdo_wo_arsh (off : Int) (h : ¬ off = 0) (a b : BitVec 64) (w : World) : Calls Try.prog 18 #[.int .u8 192, .bool true, .int .i16 off, .int .u64 (N a), .int .u64 (N b)] w fun e w' => e = .returned (.tuple #[.int .u64 (N (Alu.val (Alu.go (192) true (off) a b))), .int .i64 (Alu.err (Alu.go (192) true (off) a b))]) ∧ Below w.heap.size w w' := by
  rw [Alu.go_off a b 192 true off h (by decide) (by decide) (by decide)]; simp only [Alu.val_some, Alu.err_some, Alu.val_none, Alu.err_none]
  have hw : wrap64 (N (b % 64#64)) = N (b % 64#64) := by_word _ 64 (by decide) (by decide)
  have b0 : (off == 0) = false := by simpa using h
  have d0 : (off != 0) = true := by simpa using h
  cases hmm : a.msb
  all_goals
    go_enter Try.func18, Try.ntmps18
    go_wp2_with (first | (go_at_call 45; (with_reducible refine (cut64_c _ _).mono ?_); rintro e w1 ⟨rfl, rfl⟩) | (go_at_call 45; (with_reducible refine (cut32_c _ _).mono ?_); rintro e w1 ⟨rfl, rfl⟩) | (go_at_call 48; (with_reducible refine (neg64_c _ _).mono ?_); rintro e w1 ⟨rfl, rfl⟩) | (go_at_call 48; (with_reducible refine (neg32_c _ _).mono ?_); rintro e w1 ⟨rfl, rfl⟩))
    go_ret2
    exact ⟨rfl, (by repeat' (first | (with_reducible exact Below.refl _ _) | (with_reducible assumption) | (with_reducible refine Below.alloc ?_ ?_ _) | (with_reducible refine Below.setCell ?_ ?_ _) | (with_reducible refine Below.drew ?_) | (with_reducible refine below_dn ?_ _) | (with_reducible refine Below.trans ?_ (Below.mono (by assumption) ?_)) | go_size))⟩

theorem rdo_no_arsh (off : Int) (h : ¬ off = 0) (a b : BitVec 64) (w : World) : Calls Try.prog 18 #[.int .u8 192, .bool false, .int .i16 off, .int .u64 (N a), .int .u64 (N b)] w fun e w' => e = .returned (.tuple #[.int .u64 (N (Alu.val (Alu.go (192) false (off) a b))), .int .i64 (Alu.err (Alu.go (192) false (off) a b))]) ∧ Below w.heap.size w w' := by
  rw [Alu.go_off a b 192 false off h (by decide) (by decide) (by decide)]; simp only [Alu.val_some, Alu.err_some, Alu.val_none, Alu.err_none]
  have hw : wrap64 (N (Alu.up (Alu.dn b) % 32#64)) = N (Alu.up (Alu.dn b) % 32#64) := by_word _ 32 (by decide) (by decide)
  have b0 : (off == 0) = false := by simpa using h
  have d0 : (off != 0) = true := by simpa using h
  cases hmm : (Alu.dn a).msb
  all_goals
    go_enter Try.func18, Try.ntmps18
    go_wp2_with (first | (go_at_call 45; (with_reducible refine (cut64_c _ _).mono ?_); rintro e w1 ⟨rfl, rfl⟩) | (go_at_call 45; (with_reducible refine (cut32_c _ _).mono ?_); rintro e w1 ⟨rfl, rfl⟩) | (go_at_call 48; (with_reducible refine (neg64_c _ _).mono ?_); rintro e w1 ⟨rfl, rfl⟩) | (go_at_call 48; (with_reducible refine (neg32_c _ _).mono ?_); rintro e w1 ⟨rfl, rfl⟩))
    go_ret2
    exact ⟨rfl, (by repeat' (first | (with_reducible exact Below.refl _ _) | (with_reducible assumption) | (with_reducible refine Below.alloc ?_ ?_ _) | (with_reducible refine Below.setCell ?_ ?_ _) | (with_reducible refine Below.drew ?_) | (with_reducible refine below_dn ?_ _) | (with_reducible refine Below.trans ?_ (Below.mono (by assumption) ?_)) | go_size))⟩

theorem rdo_w_s8 (a b : BitVec 64) (w : World) : Calls Try.prog 18 #[.int .u8 176, .bool true, .int .i16 8, .int .u64 (N a), .int .u64 (N b)] w fun e w' => e = .returned (.tuple #[.int .u64 (N (Alu.val (Alu.go (176) true (8) a b))), .int .i64 (Alu.err (Alu.go (176) true (8) a b))]) ∧ Below w.heap.size w w' := by
  rw [Alu.ww_s8 a b]; simp only [Alu.val_some, Alu.err_some, Alu.val_none, Alu.err_none]
  have hw : wrap64 (N (b % 64#64)) = N (b % 64#64) := by_word _ 64 (by decide) (by decide)
  go_enter Try.func18, Try.ntmps18
  go_wp2_with (first | (go_at_call 45; (with_reducible refine (cut64_c _ _).mono ?_); rintro e w1 ⟨rfl, rfl⟩) | (go_at_call 45; (with_reducible refine (cut32_c _ _).mono ?_); rintro e w1 ⟨rfl, rfl⟩) | (go_at_call 46; (with_reducible refine (rsign_c _ _ _).mono ?_); rintro e w1 ⟨rfl, rfl⟩))
  go_ret2
  exact ⟨rfl, (by repeat' (first | (with_reducible exact Below.refl _ _) | (with_reducible assumption) | (with_reducible refine Below.alloc ?_ ?_ _) | (with_reducible refine Below.setCell ?_ ?_ _) | (with_reducible refine Below.drew ?_) | (with_reducible refine below_dn ?_ _) | (with_reducible refine Below.trans ?_ (Below.mono (by assumption) ?_)) | go_size))⟩

theorem rdo_n_s8 (a b : BitVec 64) (w : World) : Calls Try.prog 18 #[.int .u8 176, .bool false, .int .i16 8, .int .u64 (N a), .int .u64 (N b)] w fun e w' => e = .returned (.tuple #[.int .u64 (N (Alu.val (Alu.go (176) false (8) a b))), .int .i64 (Alu.err (Alu.go (176) false (8) a b))]) ∧ Below w.heap.size w w' := by
  rw [Alu.rn_s8 a b]; simp only [Alu.val_some, Alu.err_some, Alu.val_none, Alu.err_none]
  have hw : wrap64 (N (Alu.up (Alu.dn b) % 32#64)) = N (Alu.up (Alu.dn b) % 32#64) := by_word _ 32 (by decide) (by decide)
  go_enter Try.func18, Try.ntmps18
  go_wp2_with (first | (go_at_call 45; (with_reducible refine (cut64_c _ _).mono ?_); rintro e w1 ⟨rfl, rfl⟩) | (go_at_call 45; (with_reducible refine (cut32_c _ _).mono ?_); rintro e w1 ⟨rfl, rfl⟩) | (go_at_call 46; (with_reducible refine (rsign_c _ _ _).mono ?_); rintro e w1 ⟨rfl, rfl⟩))
  go_ret2
  exact ⟨rfl, (by repeat' (first | (with_reducible exact Below.refl _ _) | (with_reducible assumption) | (with_reducible refine Below.alloc ?_ ?_ _) | (with_reducible refine Below.setCell ?_ ?_ _) | (with_reducible refine Below.drew ?_) | (with_reducible refine below_dn ?_ _) | (with_reducible refine Below.trans ?_ (Below.mono (by assumption) ?_)) | go_size))⟩

theorem rdo_w_s16 (a b : BitVec 64) (w : World) : Calls Try.prog 18 #[.int .u8 176, .bool true, .int .i16 16, .int .u64 (N a), .int .u64 (N b)] w fun e w' => e = .returned (.tuple #[.int .u64 (N (Alu.val (Alu.go (176) true (16) a b))), .int .i64 (Alu.err (Alu.go (176) true (16) a b))]) ∧ Below w.heap.size w w' := by
  rw [Alu.ww_s16 a b]; simp only [Alu.val_some, Alu.err_some, Alu.val_none, Alu.err_none]
  have hw : wrap64 (N (b % 64#64)) = N (b % 64#64) := by_word _ 64 (by decide) (by decide)
  go_enter Try.func18, Try.ntmps18
  go_wp2_with (first | (go_at_call 45; (with_reducible refine (cut64_c _ _).mono ?_); rintro e w1 ⟨rfl, rfl⟩) | (go_at_call 45; (with_reducible refine (cut32_c _ _).mono ?_); rintro e w1 ⟨rfl, rfl⟩) | (go_at_call 46; (with_reducible refine (rsign_c _ _ _).mono ?_); rintro e w1 ⟨rfl, rfl⟩))
  go_ret2
  exact ⟨rfl, (by repeat' (first | (with_reducible exact Below.refl _ _) | (with_reducible assumption) | (with_reducible refine Below.alloc ?_ ?_ _) | (with_reducible refine Below.setCell ?_ ?_ _) | (with_reducible refine Below.drew ?_) | (with_reducible refine below_dn ?_ _) | (with_reducible refine Below.trans ?_ (Below.mono (by assumption) ?_)) | go_size))⟩

theorem rdo_n_s16 (a b : BitVec 64) (w : World) : Calls Try.prog 18 #[.int .u8 176, .bool false, .int .i16 16, .int .u64 (N a), .int .u64 (N b)] w fun e w' => e = .returned (.tuple #[.int .u64 (N (Alu.val (Alu.go (176) false (16) a b))), .int .i64 (Alu.err (Alu.go (176) false (16) a b))]) ∧ Below w.heap.size w w' := by
  rw [Alu.rn_s16 a b]; simp only [Alu.val_some, Alu.err_some, Alu.val_none, Alu.err_none]
  have hw : wrap64 (N (Alu.up (Alu.dn b) % 32#64)) = N (Alu.up (Alu.dn b) % 32#64) := by_word _ 32 (by decide) (by decide)
  go_enter Try.func18, Try.ntmps18
  go_wp2_with (first | (go_at_call 45; (with_reducible refine (cut64_c _ _).mono ?_); rintro e w1 ⟨rfl, rfl⟩) | (go_at_call 45; (with_reducible refine (cut32_c _ _).mono ?_); rintro e w1 ⟨rfl, rfl⟩) | (go_at_call 46; (with_reducible refine (rsign_c _ _ _).mono ?_); rintro e w1 ⟨rfl, rfl⟩))
  go_ret2
  exact ⟨rfl, (by repeat' (first | (with_reducible exact Below.refl _ _) | (with_reducible assumption) | (with_reducible refine Below.alloc ?_ ?_ _) | (with_reducible refine Below.setCell ?_ ?_ _) | (with_reducible refine Below.drew ?_) | (with_reducible refine below_dn ?_ _) | (with_reducible refine Below.trans ?_ (Below.mono (by assumption) ?_)) | go_size))⟩

theorem rdo_w_s32 (a b : BitVec 64) (w : World) : Calls Try.prog 18 #[.int .u8 176, .bool true, .int .i16 32, .int .u64 (N a), .int .u64 (N b)] w fun e w' => e = .returned (.tuple #[.int .u64 (N (Alu.val (Alu.go (176) true (32) a b))), .int .i64 (Alu.err (Alu.go (176) true (32) a b))]) ∧ Below w.heap.size w w' := by
  rw [Alu.ww_s32 a b]; simp only [Alu.val_some, Alu.err_some, Alu.val_none, Alu.err_none]
  have hw : wrap64 (N (b % 64#64)) = N (b % 64#64) := by_word _ 64 (by decide) (by decide)
  go_enter Try.func18, Try.ntmps18
  go_wp2_with (first | (go_at_call 45; (with_reducible refine (cut64_c _ _).mono ?_); rintro e w1 ⟨rfl, rfl⟩) | (go_at_call 45; (with_reducible refine (cut32_c _ _).mono ?_); rintro e w1 ⟨rfl, rfl⟩) | (go_at_call 46; (with_reducible refine (rsign_c _ _ _).mono ?_); rintro e w1 ⟨rfl, rfl⟩))
  go_ret2
  exact ⟨rfl, (by repeat' (first | (with_reducible exact Below.refl _ _) | (with_reducible assumption) | (with_reducible refine Below.alloc ?_ ?_ _) | (with_reducible refine Below.setCell ?_ ?_ _) | (with_reducible refine Below.drew ?_) | (with_reducible refine below_dn ?_ _) | (with_reducible refine Below.trans ?_ (Below.mono (by assumption) ?_)) | go_size))⟩

theorem rdo_wo_mov (off : Int) (h : ¬ off = 0) (h8 : ¬ off = 8) (h16 : ¬ off = 16) (h32 : ¬ off = 32) (a b : BitVec 64) (w : World) : Calls Try.prog 18 #[.int .u8 176, .bool true, .int .i16 off, .int .u64 (N a), .int .u64 (N b)] w fun e w' => e = .returned (.tuple #[.int .u64 (N (Alu.val (Alu.go (176) true (off) a b))), .int .i64 (Alu.err (Alu.go (176) true (off) a b))]) ∧ Below w.heap.size w w' := by
  rw [Alu.go_mov_off a b true off h h8 h16 (fun q => h32 q.1)]; simp only [Alu.val_some, Alu.err_some, Alu.val_none, Alu.err_none]
  have hw : wrap64 (N (b % 64#64)) = N (b % 64#64) := by_word _ 64 (by decide) (by decide)
  have b0 : (off == 0) = false := by simpa using h
  have d0 : (off != 0) = true := by simpa using h
  have b8 : (off == 8) = false := by simpa using h8
  have d8 : (off != 8) = true := by simpa using h8
  have b16 : (off == 16) = false := by simpa using h16
  have d16 : (off != 16) = true := by simpa using h16
  have b32 : (off == 32) = false := by simpa using h32
  have d32 : (off != 32) = true := by simpa using h32
  go_enter Try.func18, Try.ntmps18
  go_wp2_with (first | (go_at_call 45; (with_reducible refine (cut64_c _ _).mono ?_); rintro e w1 ⟨rfl, rfl⟩) | (go_at_call 45; (with_reducible refine (cut32_c _ _).mono ?_); rintro e w1 ⟨rfl, rfl⟩))
  go_ret2
  exact ⟨rfl, (by repeat' (first | (with_reducible exact Below.refl _ _) | (with_reducible assumption) | (with_reducible refine Below.alloc ?_ ?_ _) | (with_reducible refine Below.setCell ?_ ?_ _) | (with_reducible refine Below.drew ?_) | (with_reducible refine below_dn ?_ _) | (with_reducible refine Below.trans ?_ (Below.mono (by assumption) ?_)) | go_size))⟩

theorem rdo_no_mov (off : Int) (h : ¬ off = 0) (h8 : ¬ off = 8) (h16 : ¬ off = 16) (a b : BitVec 64) (w : World) : Calls Try.prog 18 #[.int .u8 176, .bool false, .int .i16 off, .int .u64 (N a), .int .u64 (N b)] w fun e w' => e = .returned (.tuple #[.int .u64 (N (Alu.val (Alu.go (176) false (off) a b))), .int .i64 (Alu.err (Alu.go (176) false (off) a b))]) ∧ Below w.heap.size w w' := by
  rw [Alu.go_mov_off a b false off h h8 h16 (fun q => nomatch q.2)]; simp only [Alu.val_some, Alu.err_some, Alu.val_none, Alu.err_none]
  have hw : wrap64 (N (Alu.up (Alu.dn b) % 32#64)) = N (Alu.up (Alu.dn b) % 32#64) := by_word _ 32 (by decide) (by decide)
  have b0 : (off == 0) = false := by simpa using h
  have d0 : (off != 0) = true := by simpa using h
  have b8 : (off == 8) = false := by simpa using h8
  have d8 : (off != 8) = true := by simpa using h8
  have b16 : (off == 16) = false := by simpa using h16
  have d16 : (off != 16) = true := by simpa using h16
  cases h32 : (off == 32)
  all_goals
    go_enter Try.func18, Try.ntmps18
    go_wp2_with (first | (go_at_call 45; (with_reducible refine (cut64_c _ _).mono ?_); rintro e w1 ⟨rfl, rfl⟩) | (go_at_call 45; (with_reducible refine (cut32_c _ _).mono ?_); rintro e w1 ⟨rfl, rfl⟩))
    go_ret2
    exact ⟨rfl, (by repeat' (first | (with_reducible exact Below.refl _ _) | (with_reducible assumption) | (with_reducible refine Below.alloc ?_ ?_ _) | (with_reducible refine Below.setCell ?_ ?_ _) | (with_reducible refine Below.drew ?_) | (with_reducible refine below_dn ?_ _) | (with_reducible refine Below.trans ?_ (Below.mono (by assumption) ?_)) | go_size))⟩

theorem rdo_w_div (a b : BitVec 64) (w : World) : Calls Try.prog 18 #[.int .u8 48, .bool true, .int .i16 0, .int .u64 (N a), .int .u64 (N b)] w fun e w' => e = .returned (.tuple #[.int .u64 (N (Alu.val (Alu.go (48) true (0) a b))), .int .i64 (Alu.err (Alu.go (48) true (0) a b))]) ∧ Below w.heap.size w w' := by
  rw [Alu.wide_div a b]; simp only [Alu.val_some, Alu.err_some, Alu.val_none, Alu.err_none]
  have hw : wrap64 (N (b % 64#64)) = N (b % 64#64) := by_word _ 64 (by decide) (by decide)
  go_enter Try.func18, Try.ntmps18
  go_wp2_with (first | (go_at_call 45; (with_reducible refine (cut64_c _ _).mono ?_); rintro e w1 ⟨rfl, rfl⟩) | (go_at_call 45; (with_reducible refine (cut32_c _ _).mono ?_); rintro e w1 ⟨rfl, rfl⟩) | (go_at_call 47; (with_reducible refine (parts64_c _ _ _ _).mono ?_); rintro e w1 ⟨rfl, hb1⟩; obtain ⟨hc1, hf1, hz1⟩ := bcell hb1) | (go_at_call 47; (with_reducible refine (parts32_c _ _ _ _).mono ?_); rintro e w1 ⟨rfl, hb1⟩; obtain ⟨hc1, hf1, hz1⟩ := bcell hb1))
  go_ret2
  exact ⟨rfl, (by repeat' (first | (with_reducible exact Below.refl _ _) | (with_reducible assumption) | (with_reducible refine Below.alloc ?_ ?_ _) | (with_reducible refine Below.setCell ?_ ?_ _) | (with_reducible refine Below.drew ?_) | (with_reducible refine below_dn ?_ _) | (with_reducible refine Below.trans ?_ (Below.mono (by assumption) ?_)) | go_size))⟩

theorem rdo_w_sdiv (a b : BitVec 64) (w : World) : Calls Try.prog 18 #[.int .u8 48, .bool true, .int .i16 1, .int .u64 (N a), .int .u64 (N b)] w fun e w' => e = .returned (.tuple #[.int .u64 (N (Alu.val (Alu.go (48) true (1) a b))), .int .i64 (Alu.err (Alu.go (48) true (1) a b))]) ∧ Below w.heap.size w w' := by
  rw [Alu.wide_sdiv a b]; simp only [Alu.val_some, Alu.err_some, Alu.val_none, Alu.err_none]
  have hw : wrap64 (N (b % 64#64)) = N (b % 64#64) := by_word _ 64 (by decide) (by decide)
  go_enter Try.func18, Try.ntmps18
  go_wp2_with (first | (go_at_call 45; (with_reducible refine (cut64_c _ _).mono ?_); rintro e w1 ⟨rfl, rfl⟩) | (go_at_call 45; (with_reducible refine (cut32_c _ _).mono ?_); rintro e w1 ⟨rfl, rfl⟩) | (go_at_call 47; (with_reducible refine (parts64_c _ _ _ _).mono ?_); rintro e w1 ⟨rfl, hb1⟩; obtain ⟨hc1, hf1, hz1⟩ := bcell hb1) | (go_at_call 47; (with_reducible refine (parts32_c _ _ _ _).mono ?_); rintro e w1 ⟨rfl, hb1⟩; obtain ⟨hc1, hf1, hz1⟩ := bcell hb1))
  go_ret2
  exact ⟨rfl, (by repeat' (first | (with_reducible exact Below.refl _ _) | (with_reducible assumption) | (with_reducible refine Below.alloc ?_ ?_ _) | (with_reducible refine Below.setCell ?_ ?_ _) | (with_reducible refine Below.drew ?_) | (with_reducible refine below_dn ?_ _) | (with_reducible refine Below.trans ?_ (Below.mono (by assumption) ?_)) | go_size))⟩

theorem rdo_wo_div (off : Int) (h : ¬ off = 0) (h1 : ¬ off = 1) (a b : BitVec 64) (w : World) : Calls Try.prog 18 #[.int .u8 48, .bool true, .int .i16 off, .int .u64 (N a), .int .u64 (N b)] w fun e w' => e = .returned (.tuple #[.int .u64 (N (Alu.val (Alu.go (48) true (off) a b))), .int .i64 (Alu.err (Alu.go (48) true (off) a b))]) ∧ Below w.heap.size w w' := by
  rw [Alu.go_div_off a b true off h h1]; simp only [Alu.val_some, Alu.err_some, Alu.val_none, Alu.err_none]
  have hw : wrap64 (N (b % 64#64)) = N (b % 64#64) := by_word _ 64 (by decide) (by decide)
  have b0 : (off == 0) = false := by simpa using h
  have d0 : (off != 0) = true := by simpa using h
  have b1 : (off == 1) = false := by simpa using h1
  have d1 : (off != 1) = true := by simpa using h1
  go_enter Try.func18, Try.ntmps18
  go_wp2_with (first | (go_at_call 45; (with_reducible refine (cut64_c _ _).mono ?_); rintro e w1 ⟨rfl, rfl⟩) | (go_at_call 45; (with_reducible refine (cut32_c _ _).mono ?_); rintro e w1 ⟨rfl, rfl⟩))
  go_ret2
  exact ⟨rfl, (by repeat' (first | (with_reducible exact Below.refl _ _) | (with_reducible assumption) | (with_reducible refine Below.alloc ?_ ?_ _) | (with_reducible refine Below.setCell ?_ ?_ _) | (with_reducible refine Below.drew ?_) | (with_reducible refine below_dn ?_ _) | (with_reducible refine Below.trans ?_ (Below.mono (by assumption) ?_)) | go_size))⟩

theorem rdo_n_div (a b : BitVec 64) (w : World) : Calls Try.prog 18 #[.int .u8 48, .bool false, .int .i16 0, .int .u64 (N a), .int .u64 (N b)] w fun e w' => e = .returned (.tuple #[.int .u64 (N (Alu.val (Alu.go (48) false (0) a b))), .int .i64 (Alu.err (Alu.go (48) false (0) a b))]) ∧ Below w.heap.size w w' := by
  rw [Alu.rn_div a b]; simp only [Alu.val_some, Alu.err_some, Alu.val_none, Alu.err_none]
  have hw : wrap64 (N (Alu.up (Alu.dn b) % 32#64)) = N (Alu.up (Alu.dn b) % 32#64) := by_word _ 32 (by decide) (by decide)
  go_enter Try.func18, Try.ntmps18
  go_wp2_with (first | (go_at_call 45; (with_reducible refine (cut64_c _ _).mono ?_); rintro e w1 ⟨rfl, rfl⟩) | (go_at_call 45; (with_reducible refine (cut32_c _ _).mono ?_); rintro e w1 ⟨rfl, rfl⟩) | (go_at_call 47; (with_reducible refine (parts64_c _ _ _ _).mono ?_); rintro e w1 ⟨rfl, hb1⟩; obtain ⟨hc1, hf1, hz1⟩ := bcell hb1) | (go_at_call 47; (with_reducible refine (parts32_c _ _ _ _).mono ?_); rintro e w1 ⟨rfl, hb1⟩; obtain ⟨hc1, hf1, hz1⟩ := bcell hb1))
  go_ret2
  exact ⟨rfl, (by repeat' (first | (with_reducible exact Below.refl _ _) | (with_reducible assumption) | (with_reducible refine Below.alloc ?_ ?_ _) | (with_reducible refine Below.setCell ?_ ?_ _) | (with_reducible refine Below.drew ?_) | (with_reducible refine below_dn ?_ _) | (with_reducible refine Below.trans ?_ (Below.mono (by assumption) ?_)) | go_size))⟩

theorem rdo_n_sdiv (a b : BitVec 64) (w : World) : Calls Try.prog 18 #[.int .u8 48, .bool false, .int .i16 1, .int .u64 (N a), .int .u64 (N b)] w fun e w' => e = .returned (.tuple #[.int .u64 (N (Alu.val (Alu.go (48) false (1) a b))), .int .i64 (Alu.err (Alu.go (48) false (1) a b))]) ∧ Below w.heap.size w w' := by
  rw [Alu.rn_sdiv a b]; simp only [Alu.val_some, Alu.err_some, Alu.val_none, Alu.err_none]
  have hw : wrap64 (N (Alu.up (Alu.dn b) % 32#64)) = N (Alu.up (Alu.dn b) % 32#64) := by_word _ 32 (by decide) (by decide)
  go_enter Try.func18, Try.ntmps18
  go_wp2_with (first | (go_at_call 45; (with_reducible refine (cut64_c _ _).mono ?_); rintro e w1 ⟨rfl, rfl⟩) | (go_at_call 45; (with_reducible refine (cut32_c _ _).mono ?_); rintro e w1 ⟨rfl, rfl⟩) | (go_at_call 47; (with_reducible refine (parts64_c _ _ _ _).mono ?_); rintro e w1 ⟨rfl, hb1⟩; obtain ⟨hc1, hf1, hz1⟩ := bcell hb1) | (go_at_call 47; (with_reducible refine (parts32_c _ _ _ _).mono ?_); rintro e w1 ⟨rfl, hb1⟩; obtain ⟨hc1, hf1, hz1⟩ := bcell hb1))
  go_ret2
  exact ⟨rfl, (by repeat' (first | (with_reducible exact Below.refl _ _) | (with_reducible assumption) | (with_reducible refine Below.alloc ?_ ?_ _) | (with_reducible refine Below.setCell ?_ ?_ _) | (with_reducible refine Below.drew ?_) | (with_reducible refine below_dn ?_ _) | (with_reducible refine Below.trans ?_ (Below.mono (by assumption) ?_)) | go_size))⟩

theorem rdo_no_div (off : Int) (h : ¬ off = 0) (h1 : ¬ off = 1) (a b : BitVec 64) (w : World) : Calls Try.prog 18 #[.int .u8 48, .bool false, .int .i16 off, .int .u64 (N a), .int .u64 (N b)] w fun e w' => e = .returned (.tuple #[.int .u64 (N (Alu.val (Alu.go (48) false (off) a b))), .int .i64 (Alu.err (Alu.go (48) false (off) a b))]) ∧ Below w.heap.size w w' := by
  rw [Alu.go_div_off a b false off h h1]; simp only [Alu.val_some, Alu.err_some, Alu.val_none, Alu.err_none]
  have hw : wrap64 (N (Alu.up (Alu.dn b) % 32#64)) = N (Alu.up (Alu.dn b) % 32#64) := by_word _ 32 (by decide) (by decide)
  have b0 : (off == 0) = false := by simpa using h
  have d0 : (off != 0) = true := by simpa using h
  have b1 : (off == 1) = false := by simpa using h1
  have d1 : (off != 1) = true := by simpa using h1
  go_enter Try.func18, Try.ntmps18
  go_wp2_with (first | (go_at_call 45; (with_reducible refine (cut64_c _ _).mono ?_); rintro e w1 ⟨rfl, rfl⟩) | (go_at_call 45; (with_reducible refine (cut32_c _ _).mono ?_); rintro e w1 ⟨rfl, rfl⟩))
  go_ret2
  exact ⟨rfl, (by repeat' (first | (with_reducible exact Below.refl _ _) | (with_reducible assumption) | (with_reducible refine Below.alloc ?_ ?_ _) | (with_reducible refine Below.setCell ?_ ?_ _) | (with_reducible refine Below.drew ?_) | (with_reducible refine below_dn ?_ _) | (with_reducible refine Below.trans ?_ (Below.mono (by assumption) ?_)) | go_size))⟩

theorem rdo_w_mod (a b : BitVec 64) (w : World) : Calls Try.prog 18 #[.int .u8 144, .bool true, .int .i16 0, .int .u64 (N a), .int .u64 (N b)] w fun e w' => e = .returned (.tuple #[.int .u64 (N (Alu.val (Alu.go (144) true (0) a b))), .int .i64 (Alu.err (Alu.go (144) true (0) a b))]) ∧ Below w.heap.size w w' := by
  rw [Alu.wide_mod a b]; simp only [Alu.val_some, Alu.err_some, Alu.val_none, Alu.err_none]
  have hw : wrap64 (N (b % 64#64)) = N (b % 64#64) := by_word _ 64 (by decide) (by decide)
  go_enter Try.func18, Try.ntmps18
  go_wp2_with (first | (go_at_call 45; (with_reducible refine (cut64_c _ _).mono ?_); rintro e w1 ⟨rfl, rfl⟩) | (go_at_call 45; (with_reducible refine (cut32_c _ _).mono ?_); rintro e w1 ⟨rfl, rfl⟩) | (go_at_call 47; (with_reducible refine (parts64_c _ _ _ _).mono ?_); rintro e w1 ⟨rfl, hb1⟩; obtain ⟨hc1, hf1, hz1⟩ := bcell hb1) | (go_at_call 47; (with_reducible refine (parts32_c _ _ _ _).mono ?_); rintro e w1 ⟨rfl, hb1⟩; obtain ⟨hc1, hf1, hz1⟩ := bcell hb1))
  go_ret2
  exact ⟨rfl, (by repeat' (first | (with_reducible exact Below.refl _ _) | (with_reducible assumption) | (with_reducible refine Below.alloc ?_ ?_ _) | (with_reducible refine Below.setCell ?_ ?_ _) | (with_reducible refine Below.drew ?_) | (with_reducible refine below_dn ?_ _) | (with_reducible refine Below.trans ?_ (Below.mono (by assumption) ?_)) | go_size))⟩

theorem rdo_w_smod (a b : BitVec 64) (w : World) : Calls Try.prog 18 #[.int .u8 144, .bool true, .int .i16 1, .int .u64 (N a), .int .u64 (N b)] w fun e w' => e = .returned (.tuple #[.int .u64 (N (Alu.val (Alu.go (144) true (1) a b))), .int .i64 (Alu.err (Alu.go (144) true (1) a b))]) ∧ Below w.heap.size w w' := by
  rw [Alu.wide_smod a b]; simp only [Alu.val_some, Alu.err_some, Alu.val_none, Alu.err_none]
  have hw : wrap64 (N (b % 64#64)) = N (b % 64#64) := by_word _ 64 (by decide) (by decide)
  go_enter Try.func18, Try.ntmps18
  go_wp2_with (first | (go_at_call 45; (with_reducible refine (cut64_c _ _).mono ?_); rintro e w1 ⟨rfl, rfl⟩) | (go_at_call 45; (with_reducible refine (cut32_c _ _).mono ?_); rintro e w1 ⟨rfl, rfl⟩) | (go_at_call 47; (with_reducible refine (parts64_c _ _ _ _).mono ?_); rintro e w1 ⟨rfl, hb1⟩; obtain ⟨hc1, hf1, hz1⟩ := bcell hb1) | (go_at_call 47; (with_reducible refine (parts32_c _ _ _ _).mono ?_); rintro e w1 ⟨rfl, hb1⟩; obtain ⟨hc1, hf1, hz1⟩ := bcell hb1))
  go_ret2
  exact ⟨rfl, (by repeat' (first | (with_reducible exact Below.refl _ _) | (with_reducible assumption) | (with_reducible refine Below.alloc ?_ ?_ _) | (with_reducible refine Below.setCell ?_ ?_ _) | (with_reducible refine Below.drew ?_) | (with_reducible refine below_dn ?_ _) | (with_reducible refine Below.trans ?_ (Below.mono (by assumption) ?_)) | go_size))⟩

theorem rdo_wo_mod (off : Int) (h : ¬ off = 0) (h1 : ¬ off = 1) (a b : BitVec 64) (w : World) : Calls Try.prog 18 #[.int .u8 144, .bool true, .int .i16 off, .int .u64 (N a), .int .u64 (N b)] w fun e w' => e = .returned (.tuple #[.int .u64 (N (Alu.val (Alu.go (144) true (off) a b))), .int .i64 (Alu.err (Alu.go (144) true (off) a b))]) ∧ Below w.heap.size w w' := by
  rw [Alu.go_mod_off a b true off h h1]; simp only [Alu.val_some, Alu.err_some, Alu.val_none, Alu.err_none]
  have hw : wrap64 (N (b % 64#64)) = N (b % 64#64) := by_word _ 64 (by decide) (by decide)
  have b0 : (off == 0) = false := by simpa using h
  have d0 : (off != 0) = true := by simpa using h
  have b1 : (off == 1) = false := by simpa using h1
  have d1 : (off != 1) = true := by simpa using h1
  go_enter Try.func18, Try.ntmps18
  go_wp2_with (first | (go_at_call 45; (with_reducible refine (cut64_c _ _).mono ?_); rintro e w1 ⟨rfl, rfl⟩) | (go_at_call 45; (with_reducible refine (cut32_c _ _).mono ?_); rintro e w1 ⟨rfl, rfl⟩))
  go_ret2
  exact ⟨rfl, (by repeat' (first | (with_reducible exact Below.refl _ _) | (with_reducible assumption) | (with_reducible refine Below.alloc ?_ ?_ _) | (with_reducible refine Below.setCell ?_ ?_ _) | (with_reducible refine Below.drew ?_) | (with_reducible refine below_dn ?_ _) | (with_reducible refine Below.trans ?_ (Below.mono (by assumption) ?_)) | go_size))⟩

theorem rdo_n_mod (a b : BitVec 64) (w : World) : Calls Try.prog 18 #[.int .u8 144, .bool false, .int .i16 0, .int .u64 (N a), .int .u64 (N b)] w fun e w' => e = .returned (.tuple #[.int .u64 (N (Alu.val (Alu.go (144) false (0) a b))), .int .i64 (Alu.err (Alu.go (144) false (0) a b))]) ∧ Below w.heap.size w w' := by
  rw [Alu.rn_mod a b]; simp only [Alu.val_some, Alu.err_some, Alu.val_none, Alu.err_none]
  have hw : wrap64 (N (Alu.up (Alu.dn b) % 32#64)) = N (Alu.up (Alu.dn b) % 32#64) := by_word _ 32 (by decide) (by decide)
  go_enter Try.func18, Try.ntmps18
  go_wp2_with (first | (go_at_call 45; (with_reducible refine (cut64_c _ _).mono ?_); rintro e w1 ⟨rfl, rfl⟩) | (go_at_call 45; (with_reducible refine (cut32_c _ _).mono ?_); rintro e w1 ⟨rfl, rfl⟩) | (go_at_call 47; (with_reducible refine (parts64_c _ _ _ _).mono ?_); rintro e w1 ⟨rfl, hb1⟩; obtain ⟨hc1, hf1, hz1⟩ := bcell hb1) | (go_at_call 47; (with_reducible refine (parts32_c _ _ _ _).mono ?_); rintro e w1 ⟨rfl, hb1⟩; obtain ⟨hc1, hf1, hz1⟩ := bcell hb1))
  go_ret2
  exact ⟨rfl, (by repeat' (first | (with_reducible exact Below.refl _ _) | (with_reducible assumption) | (with_reducible refine Below.alloc ?_ ?_ _) | (with_reducible refine Below.setCell ?_ ?_ _) | (with_reducible refine Below.drew ?_) | (with_reducible refine below_dn ?_ _) | (with_reducible refine Below.trans ?_ (Below.mono (by assumption) ?_)) | go_size))⟩

theorem rdo_n_smod (a b : BitVec 64) (w : World) : Calls Try.prog 18 #[.int .u8 144, .bool false, .int .i16 1, .int .u64 (N a), .int .u64 (N b)] w fun e w' => e = .returned (.tuple #[.int .u64 (N (Alu.val (Alu.go (144) false (1) a b))), .int .i64 (Alu.err (Alu.go (144) false (1) a b))]) ∧ Below w.heap.size w w' := by
  rw [Alu.rn_smod a b]; simp only [Alu.val_some, Alu.err_some, Alu.val_none, Alu.err_none]
  have hw : wrap64 (N (Alu.up (Alu.dn b) % 32#64)) = N (Alu.up (Alu.dn b) % 32#64) := by_word _ 32 (by decide) (by decide)
  go_enter Try.func18, Try.ntmps18
  go_wp2_with (first | (go_at_call 45; (with_reducible refine (cut64_c _ _).mono ?_); rintro e w1 ⟨rfl, rfl⟩) | (go_at_call 45; (with_reducible refine (cut32_c _ _).mono ?_); rintro e w1 ⟨rfl, rfl⟩) | (go_at_call 47; (with_reducible refine (parts64_c _ _ _ _).mono ?_); rintro e w1 ⟨rfl, hb1⟩; obtain ⟨hc1, hf1, hz1⟩ := bcell hb1) | (go_at_call 47; (with_reducible refine (parts32_c _ _ _ _).mono ?_); rintro e w1 ⟨rfl, hb1⟩; obtain ⟨hc1, hf1, hz1⟩ := bcell hb1))
  go_ret2
  exact ⟨rfl, (by repeat' (first | (with_reducible exact Below.refl _ _) | (with_reducible assumption) | (with_reducible refine Below.alloc ?_ ?_ _) | (with_reducible refine Below.setCell ?_ ?_ _) | (with_reducible refine Below.drew ?_) | (with_reducible refine below_dn ?_ _) | (with_reducible refine Below.trans ?_ (Below.mono (by assumption) ?_)) | go_size))⟩

theorem rdo_no_mod (off : Int) (h : ¬ off = 0) (h1 : ¬ off = 1) (a b : BitVec 64) (w : World) : Calls Try.prog 18 #[.int .u8 144, .bool false, .int .i16 off, .int .u64 (N a), .int .u64 (N b)] w fun e w' => e = .returned (.tuple #[.int .u64 (N (Alu.val (Alu.go (144) false (off) a b))), .int .i64 (Alu.err (Alu.go (144) false (off) a b))]) ∧ Below w.heap.size w w' := by
  rw [Alu.go_mod_off a b false off h h1]; simp only [Alu.val_some, Alu.err_some, Alu.val_none, Alu.err_none]
  have hw : wrap64 (N (Alu.up (Alu.dn b) % 32#64)) = N (Alu.up (Alu.dn b) % 32#64) := by_word _ 32 (by decide) (by decide)
  have b0 : (off == 0) = false := by simpa using h
  have d0 : (off != 0) = true := by simpa using h
  have b1 : (off == 1) = false := by simpa using h1
  have d1 : (off != 1) = true := by simpa using h1
  go_enter Try.func18, Try.ntmps18
  go_wp2_with (first | (go_at_call 45; (with_reducible refine (cut64_c _ _).mono ?_); rintro e w1 ⟨rfl, rfl⟩) | (go_at_call 45; (with_reducible refine (cut32_c _ _).mono ?_); rintro e w1 ⟨rfl, rfl⟩))
  go_ret2
  exact ⟨rfl, (by repeat' (first | (with_reducible exact Below.refl _ _) | (with_reducible assumption) | (with_reducible refine Below.alloc ?_ ?_ _) | (with_reducible refine Below.setCell ?_ ?_ _) | (with_reducible refine Below.drew ?_) | (with_reducible refine below_dn ?_ _) | (with_reducible refine Below.trans ?_ (Below.mono (by assumption) ?_)) | go_size))⟩

theorem rdo_welse (op : Int) (off : Int) (n0 : ¬ op = 0) (n16 : ¬ op = 16) (n32 : ¬ op = 32) (n64 : ¬ op = 64) (n80 : ¬ op = 80) (n160 : ¬ op = 160) (n128 : ¬ op = 128) (n176 : ¬ op = 176) (n96 : ¬ op = 96) (n112 : ¬ op = 112) (n192 : ¬ op = 192) (n48 : ¬ op = 48) (n144 : ¬ op = 144) (a b : BitVec 64) (w : World) : Calls Try.prog 18 #[.int .u8 op, .bool true, .int .i16 off, .int .u64 (N a), .int .u64 (N b)] w fun e w' => e = .returned (.tuple #[.int .u64 (N (Alu.val (Alu.go (op) true (off) a b))), .int .i64 (Alu.err (Alu.go (op) true (off) a b))]) ∧ Below w.heap.size w w' := by
  rw [Alu.go_else a b op true off n0 n16 n32 n64 n80 n160 n128 n176 n96 n112 n192 n48 n144]; simp only [Alu.val_some, Alu.err_some, Alu.val_none, Alu.err_none]
  have hw : wrap64 (N (b % 64#64)) = N (b % 64#64) := by_word _ 64 (by decide) (by decide)
  go_enter Try.func18, Try.ntmps18
  go_wp2_with (first | (go_at_call 45; (with_reducible refine (cut64_c _ _).mono ?_); rintro e w1 ⟨rfl, rfl⟩) | (go_at_call 45; (with_reducible refine (cut32_c _ _).mono ?_); rintro e w1 ⟨rfl, rfl⟩))
  go_ret2
  exact ⟨rfl, (by repeat' (first | (with_reducible exact Below.refl _ _) | (with_reducible assumption) | (with_reducible refine Below.alloc ?_ ?_ _) | (with_reducible refine Below.setCell ?_ ?_ _) | (with_reducible refine Below.drew ?_) | (with_reducible refine below_dn ?_ _) | (with_reducible refine Below.trans ?_ (Below.mono (by assumption) ?_)) | go_size))⟩

theorem rdo_nelse (op : Int) (off : Int) (n0 : ¬ op = 0) (n16 : ¬ op = 16) (n32 : ¬ op = 32) (n64 : ¬ op = 64) (n80 : ¬ op = 80) (n160 : ¬ op = 160) (n128 : ¬ op = 128) (n176 : ¬ op = 176) (n96 : ¬ op = 96) (n112 : ¬ op = 112) (n192 : ¬ op = 192) (n48 : ¬ op = 48) (n144 : ¬ op = 144) (a b : BitVec 64) (w : World) : Calls Try.prog 18 #[.int .u8 op, .bool false, .int .i16 off, .int .u64 (N a), .int .u64 (N b)] w fun e w' => e = .returned (.tuple #[.int .u64 (N (Alu.val (Alu.go (op) false (off) a b))), .int .i64 (Alu.err (Alu.go (op) false (off) a b))]) ∧ Below w.heap.size w w' := by
  rw [Alu.go_else a b op false off n0 n16 n32 n64 n80 n160 n128 n176 n96 n112 n192 n48 n144]; simp only [Alu.val_some, Alu.err_some, Alu.val_none, Alu.err_none]
  have hw : wrap64 (N (Alu.up (Alu.dn b) % 32#64)) = N (Alu.up (Alu.dn b) % 32#64) := by_word _ 32 (by decide) (by decide)
  go_enter Try.func18, Try.ntmps18
  go_wp2_with (first | (go_at_call 45; (with_reducible refine (cut64_c _ _).mono ?_); rintro e w1 ⟨rfl, rfl⟩) | (go_at_call 45; (with_reducible refine (cut32_c _ _).mono ?_); rintro e w1 ⟨rfl, rfl⟩))
  go_ret2
  exact ⟨rfl, (by repeat' (first | (with_reducible exact Below.refl _ _) | (with_reducible assumption) | (with_reducible refine Below.alloc ?_ ?_ _) | (with_reducible refine Below.setCell ?_ ?_ _) | (with_reducible refine Below.drew ?_) | (with_reducible refine below_dn ?_ _) | (with_reducible refine Below.trans ?_ (Below.mono (by assumption) ?_)) | go_size))⟩

end Hk
