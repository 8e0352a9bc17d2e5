/- The reference of facts: If; old memory is as it was. No condition but those in each statement. -/
import Derived.Test.YtmhkngblpojeaaaProg
import Derived.Test.YtmhkngblpojeaaaGp
import Derived.Test.YtmhkngblpojeaaaFr14
import Derived.Test.YtmhkngblpojeaaaFr15
import Derived.Test.YtmhkngblpojeaaaFr16
namespace Hk
open Go Go.RowKit Go.Proofs
set_option linter.unusedSimpArgs false
set_option linter.unusedVariables false
set_option maxRecDepth 100000
attribute [go_sem] Tn.eta
attribute [go_sem] Cond.val_some Cond.err_some Cond.val_none Cond.err_none
theorem rfif_c (op : Int) (wd : Bool) (a b : Fa) (w : World) : Calls Try.prog 36 #[.int .u8 op, .bool wd, .agg #[.int .u64 (N a.t.v), .int .u64 (N a.t.m), .int .u64 (N a.s.lo), .int .u64 (N a.s.hi)], .agg #[.int .u64 (N b.t.v), .int .u64 (N b.t.m), .int .u64 (N b.s.lo), .int .u64 (N b.s.hi)]] w fun e w' => e = .returned (.tuple #[.agg #[.int .u64 (N (((Fa.if_ op wd a b).getD (Fa.zero, Fa.zero)).1).t.v), .int .u64 (N (((Fa.if_ op wd a b).getD (Fa.zero, Fa.zero)).1).t.m), .int .u64 (N (((Fa.if_ op wd a b).getD (Fa.zero, Fa.zero)).1).s.lo), .int .u64 (N (((Fa.if_ op wd a b).getD (Fa.zero, Fa.zero)).1).s.hi)], .agg #[.int .u64 (N (((Fa.if_ op wd a b).getD (Fa.zero, Fa.zero)).2).t.v), .int .u64 (N (((Fa.if_ op wd a b).getD (Fa.zero, Fa.zero)).2).t.m), .int .u64 (N (((Fa.if_ op wd a b).getD (Fa.zero, Fa.zero)).2).s.lo), .int .u64 (N (((Fa.if_ op wd a b).getD (Fa.zero, Fa.zero)).2).s.hi)], .bool (Fa.if_ op wd a b).isSome]) ∧ Below w.heap.size w w' := by
  cases oa : Fa.ok a
  · exact rfif_n1 op wd a b oa w
  cases ob : Fa.ok b
  · exact rfif_n2 op wd a b oa ob w
  have go : ∀ (ka kb ha hb : Bool), Hid ((Fa.known a).isSome = ka) → Hid ((Fa.known b).isSome = kb) → (ka && kb) = false → Hid (decide (4294967296#64 ≤ a.s.hi) = ha) → Hid (decide (4294967296#64 ≤ b.s.hi) = hb) → (!wd && (ha || hb)) = false → (op = 16 → Tn.meetOk a.t b.t = true) → Calls Try.prog 36 #[.int .u8 op, .bool wd, .agg #[.int .u64 (N a.t.v), .int .u64 (N a.t.m), .int .u64 (N a.s.lo), .int .u64 (N a.s.hi)], .agg #[.int .u64 (N b.t.v), .int .u64 (N b.t.m), .int .u64 (N b.s.lo), .int .u64 (N b.s.hi)]] w fun e w' => e = .returned (.tuple #[.agg #[.int .u64 (N (((Fa.if_ op wd a b).getD (Fa.zero, Fa.zero)).1).t.v), .int .u64 (N (((Fa.if_ op wd a b).getD (Fa.zero, Fa.zero)).1).t.m), .int .u64 (N (((Fa.if_ op wd a b).getD (Fa.zero, Fa.zero)).1).s.lo), .int .u64 (N (((Fa.if_ op wd a b).getD (Fa.zero, Fa.zero)).1).s.hi)], .agg #[.int .u64 (N (((Fa.if_ op wd a b).getD (Fa.zero, Fa.zero)).2).t.v), .int .u64 (N (((Fa.if_ op wd a b).getD (Fa.zero, Fa.zero)).2).t.m), .int .u64 (N (((Fa.if_ op wd a b).getD (Fa.zero, Fa.zero)).2).s.lo), .int .u64 (N (((Fa.if_ op wd a b).getD (Fa.zero, Fa.zero)).2).s.hi)], .bool (Fa.if_ op wd a b).isSome]) ∧ Below w.heap.size w w' := fun ka kb ha hb h1 h2 h3 h4 h5 h6 h7 => by
    by_cases n16 : op = 16
    · subst n16; exact rfif_e wd a b oa ob ka kb h1 h2 h3 ha hb h4 h5 h6 (h7 rfl) rfl w
    rcases hT : Cond.turned op with _ | bk
    · exact rfif_r0 op wd a b oa ob ka kb h1 h2 h3 ha hb h4 h5 h6 n16 hT w
    · exact rfif_r1 op wd a b oa ob ka kb h1 h2 h3 ha hb h4 h5 h6 n16 bk hT w
  rcases hka : Fa.known a with _ | p
  · cases h1 : decide (4294967296#64 ≤ a.s.hi) <;> cases h2 : decide (4294967296#64 ≤ b.s.hi) <;> cases wd
    · by_cases n16 : op = 16
      · subst n16
        cases hm : Tn.meetOk a.t b.t
        · exact rfif_mff a b oa ob hka h1 h2 hm w
        · exact go _ _ _ _ (Lib.hid rfl) (Lib.hid rfl) (by simp [hka]) (Lib.hid rfl) (Lib.hid rfl) (by rw [h1, h2]; rfl) (fun _ => hm)
      · exact go _ _ _ _ (Lib.hid rfl) (Lib.hid rfl) (by simp [hka]) (Lib.hid rfl) (Lib.hid rfl) (by rw [h1, h2]; rfl) (fun h => absurd h n16)
    · by_cases n16 : op = 16
      · subst n16
        cases hm : Tn.meetOk a.t b.t
        · exact rfif_mft a b oa ob hka hm w
        · exact go _ _ _ _ (Lib.hid rfl) (Lib.hid rfl) (by simp [hka]) (Lib.hid rfl) (Lib.hid rfl) (by rw [h1, h2]; rfl) (fun _ => hm)
      · exact go _ _ _ _ (Lib.hid rfl) (Lib.hid rfl) (by simp [hka]) (Lib.hid rfl) (Lib.hid rfl) (by rw [h1, h2]; rfl) (fun h => absurd h n16)
    · exact rfif_hif1 op a b oa ob hka h1 h2 w
    · by_cases n16 : op = 16
      · subst n16
        cases hm : Tn.meetOk a.t b.t
        · exact rfif_mft a b oa ob hka hm w
        · exact go _ _ _ _ (Lib.hid rfl) (Lib.hid rfl) (by simp [hka]) (Lib.hid rfl) (Lib.hid rfl) (by rw [h1, h2]; rfl) (fun _ => hm)
      · exact go _ _ _ _ (Lib.hid rfl) (Lib.hid rfl) (by simp [hka]) (Lib.hid rfl) (Lib.hid rfl) (by rw [h1, h2]; rfl) (fun h => absurd h n16)
    · exact rfif_hif0 op a b oa ob hka h1 w
    · by_cases n16 : op = 16
      · subst n16
        cases hm : Tn.meetOk a.t b.t
        · exact rfif_mft a b oa ob hka hm w
        · exact go _ _ _ _ (Lib.hid rfl) (Lib.hid rfl) (by simp [hka]) (Lib.hid rfl) (Lib.hid rfl) (by rw [h1, h2]; rfl) (fun _ => hm)
      · exact go _ _ _ _ (Lib.hid rfl) (Lib.hid rfl) (by simp [hka]) (Lib.hid rfl) (Lib.hid rfl) (by rw [h1, h2]; rfl) (fun h => absurd h n16)
    · exact rfif_hif0 op a b oa ob hka h1 w
    · by_cases n16 : op = 16
      · subst n16
        cases hm : Tn.meetOk a.t b.t
        · exact rfif_mft a b oa ob hka hm w
        · exact go _ _ _ _ (Lib.hid rfl) (Lib.hid rfl) (by simp [hka]) (Lib.hid rfl) (Lib.hid rfl) (by rw [h1, h2]; rfl) (fun _ => hm)
      · exact go _ _ _ _ (Lib.hid rfl) (Lib.hid rfl) (by simp [hka]) (Lib.hid rfl) (Lib.hid rfl) (by rw [h1, h2]; rfl) (fun h => absurd h n16)
  rcases hkb : Fa.known b with _ | q
  · cases h1 : decide (4294967296#64 ≤ a.s.hi) <;> cases h2 : decide (4294967296#64 ≤ b.s.hi) <;> cases wd
    · by_cases n16 : op = 16
      · subst n16
        cases hm : Tn.meetOk a.t b.t
        · exact rfif_mtf a b oa ob p hka hkb h1 h2 hm w
        · exact go _ _ _ _ (Lib.hid rfl) (Lib.hid rfl) (by simp [hka, hkb]) (Lib.hid rfl) (Lib.hid rfl) (by rw [h1, h2]; rfl) (fun _ => hm)
      · exact go _ _ _ _ (Lib.hid rfl) (Lib.hid rfl) (by simp [hka, hkb]) (Lib.hid rfl) (Lib.hid rfl) (by rw [h1, h2]; rfl) (fun h => absurd h n16)
    · by_cases n16 : op = 16
      · subst n16
        cases hm : Tn.meetOk a.t b.t
        · exact rfif_mtt a b oa ob p hka hkb hm w
        · exact go _ _ _ _ (Lib.hid rfl) (Lib.hid rfl) (by simp [hka, hkb]) (Lib.hid rfl) (Lib.hid rfl) (by rw [h1, h2]; rfl) (fun _ => hm)
      · exact go _ _ _ _ (Lib.hid rfl) (Lib.hid rfl) (by simp [hka, hkb]) (Lib.hid rfl) (Lib.hid rfl) (by rw [h1, h2]; rfl) (fun h => absurd h n16)
    · exact rfif_hit1 op a b oa ob p hka hkb h1 h2 w
    · by_cases n16 : op = 16
      · subst n16
        cases hm : Tn.meetOk a.t b.t
        · exact rfif_mtt a b oa ob p hka hkb hm w
        · exact go _ _ _ _ (Lib.hid rfl) (Lib.hid rfl) (by simp [hka, hkb]) (Lib.hid rfl) (Lib.hid rfl) (by rw [h1, h2]; rfl) (fun _ => hm)
      · exact go _ _ _ _ (Lib.hid rfl) (Lib.hid rfl) (by simp [hka, hkb]) (Lib.hid rfl) (Lib.hid rfl) (by rw [h1, h2]; rfl) (fun h => absurd h n16)
    · exact rfif_hit0 op a b oa ob p hka hkb h1 w
    · by_cases n16 : op = 16
      · subst n16
        cases hm : Tn.meetOk a.t b.t
        · exact rfif_mtt a b oa ob p hka hkb hm w
        · exact go _ _ _ _ (Lib.hid rfl) (Lib.hid rfl) (by simp [hka, hkb]) (Lib.hid rfl) (Lib.hid rfl) (by rw [h1, h2]; rfl) (fun _ => hm)
      · exact go _ _ _ _ (Lib.hid rfl) (Lib.hid rfl) (by simp [hka, hkb]) (Lib.hid rfl) (Lib.hid rfl) (by rw [h1, h2]; rfl) (fun h => absurd h n16)
    · exact rfif_hit0 op a b oa ob p hka hkb h1 w
    · by_cases n16 : op = 16
      · subst n16
        cases hm : Tn.meetOk a.t b.t
        · exact rfif_mtt a b oa ob p hka hkb hm w
        · exact go _ _ _ _ (Lib.hid rfl) (Lib.hid rfl) (by simp [hka, hkb]) (Lib.hid rfl) (Lib.hid rfl) (by rw [h1, h2]; rfl) (fun _ => hm)
      · exact go _ _ _ _ (Lib.hid rfl) (Lib.hid rfl) (by simp [hka, hkb]) (Lib.hid rfl) (Lib.hid rfl) (by rw [h1, h2]; rfl) (fun h => absurd h n16)
  rcases hc : Cond.is op wd p q with _ | x
  · exact rfif_kn op wd a b oa ob p q hka hkb hc w
  cases x
  · exact rfif_kf op wd a b oa ob p q hka hkb hc w
  · exact rfif_kt op wd a b oa ob p q hka hkb hc w

theorem rfif_c' (x0 : Int) (x1 : Bool) (x2 y2 z2 u2 : BitVec 64) (x3 y3 z3 u3 : BitVec 64) (w : World) : Calls Try.prog 36 #[.int .u8 x0, .bool x1, .agg #[.int .u64 (N x2), .int .u64 (N y2), .int .u64 (N z2), .int .u64 (N u2)], .agg #[.int .u64 (N x3), .int .u64 (N y3), .int .u64 (N z3), .int .u64 (N u3)]] w fun e w' => e = .returned (.tuple #[.agg #[.int .u64 (N (((Fa.if_ x0 x1 (⟨⟨x2, y2⟩, ⟨z2, u2⟩⟩ : Fa) (⟨⟨x3, y3⟩, ⟨z3, u3⟩⟩ : Fa)).getD (Fa.zero, Fa.zero)).1).t.v), .int .u64 (N (((Fa.if_ x0 x1 (⟨⟨x2, y2⟩, ⟨z2, u2⟩⟩ : Fa) (⟨⟨x3, y3⟩, ⟨z3, u3⟩⟩ : Fa)).getD (Fa.zero, Fa.zero)).1).t.m), .int .u64 (N (((Fa.if_ x0 x1 (⟨⟨x2, y2⟩, ⟨z2, u2⟩⟩ : Fa) (⟨⟨x3, y3⟩, ⟨z3, u3⟩⟩ : Fa)).getD (Fa.zero, Fa.zero)).1).s.lo), .int .u64 (N (((Fa.if_ x0 x1 (⟨⟨x2, y2⟩, ⟨z2, u2⟩⟩ : Fa) (⟨⟨x3, y3⟩, ⟨z3, u3⟩⟩ : Fa)).getD (Fa.zero, Fa.zero)).1).s.hi)], .agg #[.int .u64 (N (((Fa.if_ x0 x1 (⟨⟨x2, y2⟩, ⟨z2, u2⟩⟩ : Fa) (⟨⟨x3, y3⟩, ⟨z3, u3⟩⟩ : Fa)).getD (Fa.zero, Fa.zero)).2).t.v), .int .u64 (N (((Fa.if_ x0 x1 (⟨⟨x2, y2⟩, ⟨z2, u2⟩⟩ : Fa) (⟨⟨x3, y3⟩, ⟨z3, u3⟩⟩ : Fa)).getD (Fa.zero, Fa.zero)).2).t.m), .int .u64 (N (((Fa.if_ x0 x1 (⟨⟨x2, y2⟩, ⟨z2, u2⟩⟩ : Fa) (⟨⟨x3, y3⟩, ⟨z3, u3⟩⟩ : Fa)).getD (Fa.zero, Fa.zero)).2).s.lo), .int .u64 (N (((Fa.if_ x0 x1 (⟨⟨x2, y2⟩, ⟨z2, u2⟩⟩ : Fa) (⟨⟨x3, y3⟩, ⟨z3, u3⟩⟩ : Fa)).getD (Fa.zero, Fa.zero)).2).s.hi)], .bool (Fa.if_ x0 x1 (⟨⟨x2, y2⟩, ⟨z2, u2⟩⟩ : Fa) (⟨⟨x3, y3⟩, ⟨z3, u3⟩⟩ : Fa)).isSome]) ∧ Below w.heap.size w w' := by
  exact rfif_c x0 x1 (⟨⟨x2, y2⟩, ⟨z2, u2⟩⟩ : Fa) (⟨⟨x3, y3⟩, ⟨z3, u3⟩⟩ : Fa) w

end Hk
