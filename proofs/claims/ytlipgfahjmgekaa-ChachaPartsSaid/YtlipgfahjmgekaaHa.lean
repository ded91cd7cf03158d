/- The quarter round of four words, as the machine walks it. -/
import Derived.Test.YtlipgfahjmgekaaSL1
namespace Go.Proofs.Ytlipgfahjmgekaa.S
open Go.RowKit Go.Proofs.YtlipgfahjmgekaaW.PrintWords Go.Proofs.YtlipgfahjmgekaaW.PrintLast Go.Proofs.YtlipgfahjmgekaaW.PrintMore
attribute [local go_sem] max2_int min2_int max_two min_two max_three min_three max_four min_four   -- for this text's walks alone
set_option linter.unusedVariables false
set_option linter.unusedSimpArgs false

/-! ### chacha_quarter: function 18 -/
def chacha_quarter.f (a0 : Int) (a1 : Int) (a2 : Int) (a3 : Int) : Option (Int × Int × Int × Int) := (bits_RotateLeft32.f (Go.bits .xor .u32 a3 ((a0 + a1) % 4294967296)) 16).bind fun t101 => ((bits_RotateLeft32.f (Go.bits .xor .u32 a1 ((a2 + t101) % 4294967296)) 12).bind fun t102 => ((bits_RotateLeft32.f (Go.bits .xor .u32 t101 ((((a0 + a1) % 4294967296) + t102) % 4294967296)) 8).bind fun t103 => ((bits_RotateLeft32.f (Go.bits .xor .u32 t102 ((((a2 + t101) % 4294967296) + t103) % 4294967296)) 7).bind fun t104 => (some ((((a0 + a1) % 4294967296) + t102) % 4294967296, t104, (((a2 + t101) % 4294967296) + t103) % 4294967296, t103)))))
set_option maxHeartbeats 8000000 in
set_option maxRecDepth 100000 in
theorem chacha_quarter.calls (a0 : Int) (a1 : Int) (a2 : Int) (a3 : Int) (r1 : Int) (r2 : Int) (r3 : Int) (r4 : Int) (w : World) (h : chacha_quarter.f a0 a1 a2 a3 = some (r1, r2, r3, r4)) :
    Calls Try.prog 18 #[.int .u32 a0, .int .u32 a1, .int .u32 a2, .int .u32 a3] w fun e w' => e = .returned (.tuple #[.int .u32 r1, .int .u32 r2, .int .u32 r3, .int .u32 r4]) ∧ Drawn0 w w' := by
  have H : ((bits_RotateLeft32.f (Go.bits .xor .u32 a3 ((a0 + a1) % 4294967296)) 16).bind fun t101 => ((bits_RotateLeft32.f (Go.bits .xor .u32 a1 ((a2 + t101) % 4294967296)) 12).bind fun t102 => ((bits_RotateLeft32.f (Go.bits .xor .u32 t101 ((((a0 + a1) % 4294967296) + t102) % 4294967296)) 8).bind fun t103 => ((bits_RotateLeft32.f (Go.bits .xor .u32 t102 ((((a2 + t101) % 4294967296) + t103) % 4294967296)) 7).bind fun t104 => (some ((((a0 + a1) % 4294967296) + t102) % 4294967296, t104, (((a2 + t101) % 4294967296) + t103) % 4294967296, t103)))))) = some (r1, r2, r3, r4) := h
  clear h
  replace H := Option.bind_eq_some_iff.mp H
  obtain ⟨t101, A50, H⟩ := H
  replace H : ((bits_RotateLeft32.f (Go.bits .xor .u32 a1 ((a2 + t101) % 4294967296)) 12).bind fun t102 => ((bits_RotateLeft32.f (Go.bits .xor .u32 t101 ((((a0 + a1) % 4294967296) + t102) % 4294967296)) 8).bind fun t103 => ((bits_RotateLeft32.f (Go.bits .xor .u32 t102 ((((a2 + t101) % 4294967296) + t103) % 4294967296)) 7).bind fun t104 => (some ((((a0 + a1) % 4294967296) + t102) % 4294967296, t104, (((a2 + t101) % 4294967296) + t103) % 4294967296, t103))))) = some (r1, r2, r3, r4) := H
  have A5 := Aside0.mk A50
  clear A50
  replace H := Option.bind_eq_some_iff.mp H
  obtain ⟨t102, A60, H⟩ := H
  replace H : ((bits_RotateLeft32.f (Go.bits .xor .u32 t101 ((((a0 + a1) % 4294967296) + t102) % 4294967296)) 8).bind fun t103 => ((bits_RotateLeft32.f (Go.bits .xor .u32 t102 ((((a2 + t101) % 4294967296) + t103) % 4294967296)) 7).bind fun t104 => (some ((((a0 + a1) % 4294967296) + t102) % 4294967296, t104, (((a2 + t101) % 4294967296) + t103) % 4294967296, t103)))) = some (r1, r2, r3, r4) := H
  have A6 := Aside0.mk A60
  clear A60
  replace H := Option.bind_eq_some_iff.mp H
  obtain ⟨t103, A70, H⟩ := H
  replace H : ((bits_RotateLeft32.f (Go.bits .xor .u32 t102 ((((a2 + t101) % 4294967296) + t103) % 4294967296)) 7).bind fun t104 => (some ((((a0 + a1) % 4294967296) + t102) % 4294967296, t104, (((a2 + t101) % 4294967296) + t103) % 4294967296, t103))) = some (r1, r2, r3, r4) := H
  have A7 := Aside0.mk A70
  clear A70
  replace H := Option.bind_eq_some_iff.mp H
  obtain ⟨t104, A80, H⟩ := H
  replace H : (some ((((a0 + a1) % 4294967296) + t102) % 4294967296, t104, (((a2 + t101) % 4294967296) + t103) % 4294967296, t103)) = some (r1, r2, r3, r4) := H
  have A8 := Aside0.mk A80
  clear A80
  obtain ⟨s1, e1⟩ : ∃ s : Int, (a0 + a1) % 4294967296 = s := ⟨_, rfl⟩
  rw [e1] at A5 A7 H
  obtain ⟨s2, e2⟩ : ∃ s : Int, (a2 + t101) % 4294967296 = s := ⟨_, rfl⟩
  rw [e2] at A6 A8 H
  obtain ⟨s3, e3⟩ : ∃ s : Int, (s1 + t102) % 4294967296 = s := ⟨_, rfl⟩
  rw [e3] at A7 H
  obtain ⟨s4, e4⟩ : ∃ s : Int, (s2 + t103) % 4294967296 = s := ⟨_, rfl⟩
  rw [e4] at A8 H
  simp only [Option.some.injEq, Prod.mk.injEq] at H
  obtain ⟨rfl, rfl, rfl, rfl⟩ := H
  go_enter Try.func18, Try.ntmps18
  go_wp2_with (first | ((with_reducible refine gate_callee (f := 26) rfl ?_); refine goesL_ (some 18) rfl rfl Try.func26 (by kernel_rfl) rfl #[.int .u32 (Go.bits .xor .u32 a3 s1), .int .i64 16] rfl (by (try simp only [List.map_toArray, List.map_cons, List.map_nil]); first | done | rfl | (simp only [List.length_drop, List.length_take]; rfl)) ?_; (with_reducible refine (bits_RotateLeft32.calls (Go.bits .xor .u32 a3 s1) 16 t101 _ A5.out).mono ?_); rintro e w' ⟨rfl, ⟨nd, rfl⟩⟩; refine ⟨_, rfl, ?_⟩) | ((with_reducible refine gate_callee (f := 26) rfl ?_); refine goesL_ (some 25) rfl rfl Try.func26 (by kernel_rfl) rfl #[.int .u32 (Go.bits .xor .u32 a1 s2), .int .i64 12] rfl (by (try simp only [List.map_toArray, List.map_cons, List.map_nil]); first | done | rfl | (simp only [List.length_drop, List.length_take]; rfl)) ?_; (with_reducible refine (bits_RotateLeft32.calls (Go.bits .xor .u32 a1 s2) 12 t102 _ A6.out).mono ?_); rintro e w' ⟨rfl, ⟨nd, rfl⟩⟩; refine ⟨_, rfl, ?_⟩) | ((with_reducible refine gate_callee (f := 26) rfl ?_); refine goesL_ (some 32) rfl rfl Try.func26 (by kernel_rfl) rfl #[.int .u32 (Go.bits .xor .u32 t101 s3), .int .i64 8] rfl (by (try simp only [List.map_toArray, List.map_cons, List.map_nil]); first | done | rfl | (simp only [List.length_drop, List.length_take]; rfl)) ?_; (with_reducible refine (bits_RotateLeft32.calls (Go.bits .xor .u32 t101 s3) 8 t103 _ A7.out).mono ?_); rintro e w' ⟨rfl, ⟨nd, rfl⟩⟩; refine ⟨_, rfl, ?_⟩) | ((with_reducible refine gate_callee (f := 26) rfl ?_); refine goesL_ (some 39) rfl rfl Try.func26 (by kernel_rfl) rfl #[.int .u32 (Go.bits .xor .u32 t102 s4), .int .i64 7] rfl (by (try simp only [List.map_toArray, List.map_cons, List.map_nil]); first | done | rfl | (simp only [List.length_drop, List.length_take]; rfl)) ?_; (with_reducible refine (bits_RotateLeft32.calls (Go.bits .xor .u32 t102 s4) 7 t104 _ A8.out).mono ?_); rintro e w' ⟨rfl, ⟨nd, rfl⟩⟩; refine ⟨_, rfl, ?_⟩))
  refine bodyPost_ret (results_list (rs := [.tmp 8, .tmp 9, .tmp 10, .tmp 11]) rfl (by simp) (.tmp (.tmp (.tmp (.tmp .nil))))) rfl ?_
  exact ⟨by first | rfl | (simp; done) | (simp [*]; done), by repeat (first | exact Drawn0.refl _ | apply Drawn0.step)⟩


end Go.Proofs.Ytlipgfahjmgekaa.S
