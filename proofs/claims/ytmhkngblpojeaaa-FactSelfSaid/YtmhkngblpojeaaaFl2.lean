/- The statement FactSelf of the Go text: it returns true, and old memory is as it was. No condition. -/
import Derived.Test.YtmhkngblpojeaaaProg
import Derived.Test.YtmhkngblpojeaaaGp
import Derived.Test.YtmhkngblpojeaaaGf
import Derived.Test.YtmhkngblpojeaaaFl1
import Derived.Test.YtmhkngblpojeaaaGl
namespace Hk
open Go Go.RowKit Go.Proofs
set_option linter.unusedSimpArgs false
set_option linter.unusedVariables false
set_option maxRecDepth 100000
attribute [go_sem] Tn.eta
def FSelfC (n0 n1 n2 n3 : BitVec 64) (f : Fa) (w wF : World) (w' : World) : Prop := w'.cell? ⟨w.heap.size, 0, none⟩ = some (.int .u64 (N n0)) ∧ w'.cell? ⟨w.heap.size, 1, none⟩ = some (.int .u64 (N n1)) ∧ w'.cell? ⟨w.heap.size, 2, none⟩ = some (.int .u64 (N n2)) ∧ w'.cell? ⟨w.heap.size, 3, none⟩ = some (.int .u64 (N n3)) ∧ w'.cell? ⟨wF.heap.size, 0, none⟩ = some (.int .u64 (N f.t.v)) ∧ w'.cell? ⟨wF.heap.size, 1, none⟩ = some (.int .u64 (N f.t.m)) ∧ w'.cell? ⟨wF.heap.size, 2, none⟩ = some (.int .u64 (N f.s.lo)) ∧ w'.cell? ⟨wF.heap.size, 3, none⟩ = some (.int .u64 (N f.s.hi)) ∧ Below w.heap.size w w'
theorem FSelfC_keep {n0 n1 n2 n3 : BitVec 64} {f : Fa} {w wF : World} (w' w1 : World) (h : FSelfC n0 n1 n2 n3 f w wF w') (hb : Below w'.heap.size w' w1) : FSelfC n0 n1 n2 n3 f w wF w1 := by
  obtain ⟨k0, k1, k2, k3, k4, k5, k6, k7, k8⟩ := h
  exact ⟨cell_keep hb k0, cell_keep hb k1, cell_keep hb k2, cell_keep hb k3, cell_keep hb k4, cell_keep hb k5, cell_keep hb k6, cell_keep hb k7, below_next k8 hb⟩

set_option maxHeartbeats 2000000 in
theorem factSelf_n (n0 n1 n2 n3 o : BitVec 64) (f : Fa) (hf : Fa.made n0 n1 n2 n3 = f) (hok : Fa.ok f = true) (s1 : Fa.within f f = true) (s2 : Fa.within f Fa.any = true) (s3 : Fa.join f f = f) (s4 : Fa.within (Fa.of o) f = Fa.has f o) (hk : Fa.known f = none) (w : World) : Calls Try.prog 9 #[.agg #[.int .u64 (N n0), .int .u64 (N n1), .int .u64 (N n2), .int .u64 (N n3)], .int .u64 (N o)] w fun e w' => e = .returned (.bool true) ∧ Below w.heap.size w w' := by
  go_enter Try.func9, Try.ntmps9
  go_wp2_with fail
  refine (fshown_c _).mono ?_
  rintro e wS ⟨rfl, hbwS⟩
  obtain ⟨hcwS, hfwS, hzwS⟩ := bcell hbwS
  (try simp only [World.size_alloc, World.size_setCell, World.size_drew] at hcwS hfwS hzwS)
  go_wp2_with fail
  refine (fmade_c _ _ _ _ _).mono ?_
  rintro e wF ⟨rfl, hbwF⟩
  obtain ⟨hcwF, hfwF, hzwF⟩ := bcell hbwF
  (try simp only [World.size_alloc, World.size_setCell, World.size_drew] at hcwF hfwF hzwF)
  go_wp2_with (first | (go_at_call 20; (with_reducible refine (fknown_c' _ _ _ _ _).mono ?_); rintro e w1 ⟨rfl, hb1⟩; obtain ⟨hc1, hf1, hz1⟩ := bcell hb1; (try simp only [World.size_alloc, World.size_setCell, World.size_drew] at hc1 hf1 hz1)))
  refine wp_region_class (FSelfC n0 n1 n2 n3 f w wF) (by kernel_rfl) (by kernel_rfl) ?_ ?_
  · refine ⟨?_, ?_, ?_, ?_, ?_, ?_, ?_, ?_, (by repeat' (first | (with_reducible exact Below.refl _ _) | (with_reducible assumption) | (with_reducible refine Below.alloc ?_ ?_ _) | (with_reducible refine Below.setCell ?_ ?_ _) | (with_reducible refine Below.drew ?_) | (with_reducible refine below_dn ?_ _) | (with_reducible refine Below.trans ?_ (Below.mono (by assumption) ?_)) | go_size))⟩
    all_goals first | (intro i; simp [*, go_sem, ↓IntWalk.iteOmega]; done) | (simp [*, go_sem, ↓IntWalk.iteOmega]; done)
  clear hbwS hcwS hfwS hzwS hbwF hcwF hfwF hzwF
  intro hN
  (try simp only [List.append])
  repeat (first
    | go_big_quiet_skip
    | (go_big_quiet_want
       first
         | (refine quiet_load_Fa rfl rfl (fun w' hC => by obtain ⟨k0, k1, k2, k3, k4, k5, k6, k7, k8⟩ := hC; first | exact ⟨k0, k1, k2, k3⟩ | exact ⟨k1, k2, k3, k4⟩ | exact ⟨k2, k3, k4, k5⟩ | exact ⟨k3, k4, k5, k6⟩ | exact ⟨k4, k5, k6, k7⟩) ?_
            simp only [Act.put, List.setIfInBounds_toArray, List.set_cons_succ, List.set_cons_zero]
            go_big_quiet_on)
         | (refine quiet_load_W rfl rfl (fun w' hC => by obtain ⟨k0, k1, k2, k3, k4, k5, k6, k7, k8⟩ := hC; first | exact k0 | exact k1 | exact k2 | exact k3 | exact k4 | exact k5 | exact k6 | exact k7) ?_
            simp only [Act.put, List.setIfInBounds_toArray, List.set_cons_succ, List.set_cons_zero]
            go_big_quiet_on)
         | (go_big_quiet_op
            first
              | go_big_quiet_on
              | (apply Exists.intro
                 refine ⟨fun w' hC => ?_, ?_⟩
                 · (first | (go_at_call 22; (with_reducible refine (fright_c' _ _ _ _ _).mono ?_); rintro e w1 ⟨rfl, hb1⟩) | (go_at_call 30; (with_reducible refine (fwithin_c' _ _ _ _ _ _ _ _ _).mono ?_); rintro e w1 ⟨rfl, hb1⟩) | (go_at_call 32; (with_reducible refine (fjoin_c' _ _ _ _ _ _ _ _ _).mono ?_); rintro e w1 ⟨rfl, hb1⟩) | (go_at_call 27; (with_reducible refine (fhas_c' _ _ _ _ _ _).mono ?_); rintro e w1 ⟨rfl, hb1⟩) | (go_at_call 17; (with_reducible refine (fof_c' _ _).mono ?_); rintro e w1 ⟨rfl, hb1⟩) | (go_at_call 25; (with_reducible refine (fany_c _).mono ?_); rintro e w1 ⟨rfl, hb1⟩))
                   (try simp only [Tn.eta, Sp.eta, Fa.eta, hok, s1, s2, s3, s4])
                   exact ⟨rfl, by first | exact hC | exact FSelfC_keep _ _ hC hb1⟩
                 go_big_quiet_on))))
  refine wpQuiet_nil ?_
  intro w9 hC
  obtain ⟨k0, k1, k2, k3, k4, k5, k6, k7, k8⟩ := hC
  have z0 := cell_lt k0
  have z4 := cell_lt k4
  go_wp2
  go_ret
  exact ⟨rfl, k8⟩

set_option maxHeartbeats 2000000 in
theorem factSelf_s (n0 n1 n2 n3 o : BitVec 64) (f : Fa) (hf : Fa.made n0 n1 n2 n3 = f) (hok : Fa.ok f = true) (s1 : Fa.within f f = true) (s2 : Fa.within f Fa.any = true) (s3 : Fa.join f f = f) (s4 : Fa.within (Fa.of o) f = Fa.has f o) (hk : Fa.known f = some n0) (he : Fa.of n0 = f) (w : World) : Calls Try.prog 9 #[.agg #[.int .u64 (N n0), .int .u64 (N n1), .int .u64 (N n2), .int .u64 (N n3)], .int .u64 (N o)] w fun e w' => e = .returned (.bool true) ∧ Below w.heap.size w w' := by
  go_enter Try.func9, Try.ntmps9
  go_wp2_with fail
  refine (fshown_c _).mono ?_
  rintro e wS ⟨rfl, hbwS⟩
  obtain ⟨hcwS, hfwS, hzwS⟩ := bcell hbwS
  (try simp only [World.size_alloc, World.size_setCell, World.size_drew] at hcwS hfwS hzwS)
  go_wp2_with fail
  refine (fmade_c _ _ _ _ _).mono ?_
  rintro e wF ⟨rfl, hbwF⟩
  obtain ⟨hcwF, hfwF, hzwF⟩ := bcell hbwF
  (try simp only [World.size_alloc, World.size_setCell, World.size_drew] at hcwF hfwF hzwF)
  go_wp2_with (first | (go_at_call 20; (with_reducible refine (fknown_c' _ _ _ _ _).mono ?_); rintro e w1 ⟨rfl, hb1⟩; obtain ⟨hc1, hf1, hz1⟩ := bcell hb1; (try simp only [World.size_alloc, World.size_setCell, World.size_drew] at hc1 hf1 hz1)))
  refine wp_region_class (FSelfC n0 n1 n2 n3 f w wF) (by kernel_rfl) (by kernel_rfl) ?_ ?_
  · refine ⟨?_, ?_, ?_, ?_, ?_, ?_, ?_, ?_, (by repeat' (first | (with_reducible exact Below.refl _ _) | (with_reducible assumption) | (with_reducible refine Below.alloc ?_ ?_ _) | (with_reducible refine Below.setCell ?_ ?_ _) | (with_reducible refine Below.drew ?_) | (with_reducible refine below_dn ?_ _) | (with_reducible refine Below.trans ?_ (Below.mono (by assumption) ?_)) | go_size))⟩
    all_goals first | (intro i; simp [*, go_sem, ↓IntWalk.iteOmega]; done) | (simp [*, go_sem, ↓IntWalk.iteOmega]; done)
  clear hbwS hcwS hfwS hzwS hbwF hcwF hfwF hzwF
  intro hN
  (try simp only [List.append])
  repeat (first
    | go_big_quiet_skip
    | (go_big_quiet_want
       first
         | (refine quiet_load_Fa rfl rfl (fun w' hC => by obtain ⟨k0, k1, k2, k3, k4, k5, k6, k7, k8⟩ := hC; first | exact ⟨k0, k1, k2, k3⟩ | exact ⟨k1, k2, k3, k4⟩ | exact ⟨k2, k3, k4, k5⟩ | exact ⟨k3, k4, k5, k6⟩ | exact ⟨k4, k5, k6, k7⟩) ?_
            simp only [Act.put, List.setIfInBounds_toArray, List.set_cons_succ, List.set_cons_zero]
            go_big_quiet_on)
         | (refine quiet_load_W rfl rfl (fun w' hC => by obtain ⟨k0, k1, k2, k3, k4, k5, k6, k7, k8⟩ := hC; first | exact k0 | exact k1 | exact k2 | exact k3 | exact k4 | exact k5 | exact k6 | exact k7) ?_
            simp only [Act.put, List.setIfInBounds_toArray, List.set_cons_succ, List.set_cons_zero]
            go_big_quiet_on)
         | (go_big_quiet_op
            first
              | go_big_quiet_on
              | (apply Exists.intro
                 refine ⟨fun w' hC => ?_, ?_⟩
                 · (first | (go_at_call 22; (with_reducible refine (fright_c' _ _ _ _ _).mono ?_); rintro e w1 ⟨rfl, hb1⟩) | (go_at_call 30; (with_reducible refine (fwithin_c' _ _ _ _ _ _ _ _ _).mono ?_); rintro e w1 ⟨rfl, hb1⟩) | (go_at_call 32; (with_reducible refine (fjoin_c' _ _ _ _ _ _ _ _ _).mono ?_); rintro e w1 ⟨rfl, hb1⟩) | (go_at_call 27; (with_reducible refine (fhas_c' _ _ _ _ _ _).mono ?_); rintro e w1 ⟨rfl, hb1⟩) | (go_at_call 17; (with_reducible refine (fof_c' _ _).mono ?_); rintro e w1 ⟨rfl, hb1⟩) | (go_at_call 25; (with_reducible refine (fany_c _).mono ?_); rintro e w1 ⟨rfl, hb1⟩))
                   (try simp only [Tn.eta, Sp.eta, Fa.eta, hok, s1, s2, s3, s4, he])
                   exact ⟨rfl, by first | exact hC | exact FSelfC_keep _ _ hC hb1⟩
                 go_big_quiet_on))))
  refine wpQuiet_nil ?_
  intro w9 hC
  obtain ⟨k0, k1, k2, k3, k4, k5, k6, k7, k8⟩ := hC
  have z0 := cell_lt k0
  have z4 := cell_lt k4
  go_wp2
  go_ret
  exact ⟨rfl, k8⟩

theorem factSelf_walk (n0 n1 n2 n3 : BitVec 64) (o : BitVec 64) (w : World) : Calls Try.prog 9 #[.agg #[.int .u64 (N n0), .int .u64 (N n1), .int .u64 (N n2), .int .u64 (N n3)], .int .u64 (N o)] w fun e w' => e = .returned (.bool true) ∧ Below w.heap.size w w' := by
  obtain ⟨_, hok, hmay⟩ := Fa.made_spec n0 n1 n2 n3
  generalize hf : Fa.made n0 n1 n2 n3 = f at hok hmay
  obtain ⟨r1, r2⟩ := Fa.ok_right hok
  have s1 : Fa.within f f = true := Fa.within_iff.2 ⟨hok, hok, Fa.sub_refl r1 r2⟩
  have s2 : Fa.within f Fa.any = true := Fa.within_iff.2 ⟨hok, Fa.ok_any, Fa.sub_any r1 r2⟩
  have s3 := Fa.join_self hok
  have s4 : Fa.within (Fa.of o) f = Fa.has f o := Fa.within_of
  rcases hk : Fa.known f with _ | k
  · exact factSelf_n n0 n1 n2 n3 o f hf hok s1 s2 s3 s4 hk w
  · have e := Fa.known_may hk hmay
    subst e
    exact factSelf_s n0 n1 n2 n3 o f hf hok s1 s2 s3 s4 hk (Fa.known_eq hk).symm w

end Hk
