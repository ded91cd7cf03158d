/- A word turned left, as the machine walks it. -/
import Derived.Test.YtlipgfahjmgekaaSL1
import Derived.Test.YtlipgfahjmgekaaMath
namespace Go.Proofs.Ytlipgfahjmgekaa.S
open Go.RowKit Go.Proofs.YtlipgfahjmgekaaW.PrintWords Go.Proofs.YtlipgfahjmgekaaW.PrintLast Go.Proofs.YtlipgfahjmgekaaW.PrintMore
attribute [local go_sem] max2_int min2_int max_two min_two max_three min_three max_four min_four
set_option linter.unusedVariables false
set_option linter.unusedSimpArgs false

def lo32 (x : Int) : Int := Go.bits .and .i64 x 4294967295
def samphireref01_Rot.f (a0 a1 : Int) : Option Int := if a1 = 16 ∨ a1 = 12 ∨ a1 = 8 ∨ a1 = 7 then some (lo32 (Go.bits .or .i64 (wrap64 (lo32 a0 * 2 ^ a1.toNat)) (lo32 a0 / 2 ^ (32 - a1.toNat)))) else none
theorem word_is (a0 s : Int) (h : lo32 a0 = s) : samphireref01_Word.f a0 = some s := by subst h; rfl
theorem lo32_nonneg (x : Int) : 0 ≤ lo32 x ∧ lo32 x ≤ 4294967295 := by
  unfold lo32
  rw [mask32]
  omega

set_option maxHeartbeats 8000000 in
set_option maxRecDepth 100000 in
theorem rot16 (a0 r s u : Int) (w : World) (h0 : 0 ≤ s) (h1 : s ≤ 4294967295) (A : Aside0 (samphireref01_Word.f a0 = some s)) (hu : IntKind.i64.wrap (s * 65536) = u) (B : Aside0 (samphireref01_Word.f (Go.bits .or .i64 u (s / 65536)) = some r)) :
    Calls Try.prog 19 #[.int .i64 a0, .int .i64 16] w fun e w' => e = .returned (.int .i64 r) ∧ Drawn0 w w' := by
  have e : Go.bits .and .i64 16 31 = 16 := by kernel_rfl
  have e2 : IntKind.i64.wrap 16 = 16 := by kernel_rfl
  go_enter Try.func19, Try.ntmps19
  go_wp2
  go_quiet (first | (go_at_call 17; (with_reducible refine (samphireref01_Word.calls a0 s _ A.out).mono ?_); rintro e w' ⟨rfl, ⟨nd, rfl⟩⟩; (try first | exact ⟨rfl, _, World.drewN_drewN _ _ _⟩ | exact ⟨rfl, _, Eq.trans (World.drewN_drewN _ _ _) (congrArg (World.drewN _) (Nat.add_assoc _ _ _))⟩)) | (go_at_call 17; (with_reducible refine (samphireref01_Word.calls (Go.bits .or .i64 u (s / 65536)) r _ B.out).mono ?_); rintro e w' ⟨rfl, ⟨nd, rfl⟩⟩; (try first | exact ⟨rfl, _, World.drewN_drewN _ _ _⟩ | exact ⟨rfl, _, Eq.trans (World.drewN_drewN _ _ _) (congrArg (World.drewN _) (Nat.add_assoc _ _ _))⟩)))
  go_wp2
  go_ret
  exact ⟨by first | rfl | (simp; done) | (simp [*]; done), by repeat (first | exact Drawn0.refl _ | apply Drawn0.step)⟩

set_option maxHeartbeats 8000000 in
set_option maxRecDepth 100000 in
theorem rot12 (a0 r s u : Int) (w : World) (h0 : 0 ≤ s) (h1 : s ≤ 4294967295) (A : Aside0 (samphireref01_Word.f a0 = some s)) (hu : IntKind.i64.wrap (s * 4096) = u) (B : Aside0 (samphireref01_Word.f (Go.bits .or .i64 u (s / 1048576)) = some r)) :
    Calls Try.prog 19 #[.int .i64 a0, .int .i64 12] w fun e w' => e = .returned (.int .i64 r) ∧ Drawn0 w w' := by
  have e : Go.bits .and .i64 12 31 = 12 := by kernel_rfl
  have e2 : IntKind.i64.wrap 20 = 20 := by kernel_rfl
  go_enter Try.func19, Try.ntmps19
  go_wp2
  go_quiet (first | (go_at_call 17; (with_reducible refine (samphireref01_Word.calls a0 s _ A.out).mono ?_); rintro e w' ⟨rfl, ⟨nd, rfl⟩⟩; (try first | exact ⟨rfl, _, World.drewN_drewN _ _ _⟩ | exact ⟨rfl, _, Eq.trans (World.drewN_drewN _ _ _) (congrArg (World.drewN _) (Nat.add_assoc _ _ _))⟩)) | (go_at_call 17; (with_reducible refine (samphireref01_Word.calls (Go.bits .or .i64 u (s / 1048576)) r _ B.out).mono ?_); rintro e w' ⟨rfl, ⟨nd, rfl⟩⟩; (try first | exact ⟨rfl, _, World.drewN_drewN _ _ _⟩ | exact ⟨rfl, _, Eq.trans (World.drewN_drewN _ _ _) (congrArg (World.drewN _) (Nat.add_assoc _ _ _))⟩)))
  go_wp2
  go_ret
  exact ⟨by first | rfl | (simp; done) | (simp [*]; done), by repeat (first | exact Drawn0.refl _ | apply Drawn0.step)⟩

set_option maxHeartbeats 8000000 in
set_option maxRecDepth 100000 in
theorem rot8 (a0 r s u : Int) (w : World) (h0 : 0 ≤ s) (h1 : s ≤ 4294967295) (A : Aside0 (samphireref01_Word.f a0 = some s)) (hu : IntKind.i64.wrap (s * 256) = u) (B : Aside0 (samphireref01_Word.f (Go.bits .or .i64 u (s / 16777216)) = some r)) :
    Calls Try.prog 19 #[.int .i64 a0, .int .i64 8] w fun e w' => e = .returned (.int .i64 r) ∧ Drawn0 w w' := by
  have e : Go.bits .and .i64 8 31 = 8 := by kernel_rfl
  have e2 : IntKind.i64.wrap 24 = 24 := by kernel_rfl
  go_enter Try.func19, Try.ntmps19
  go_wp2
  go_quiet (first | (go_at_call 17; (with_reducible refine (samphireref01_Word.calls a0 s _ A.out).mono ?_); rintro e w' ⟨rfl, ⟨nd, rfl⟩⟩; (try first | exact ⟨rfl, _, World.drewN_drewN _ _ _⟩ | exact ⟨rfl, _, Eq.trans (World.drewN_drewN _ _ _) (congrArg (World.drewN _) (Nat.add_assoc _ _ _))⟩)) | (go_at_call 17; (with_reducible refine (samphireref01_Word.calls (Go.bits .or .i64 u (s / 16777216)) r _ B.out).mono ?_); rintro e w' ⟨rfl, ⟨nd, rfl⟩⟩; (try first | exact ⟨rfl, _, World.drewN_drewN _ _ _⟩ | exact ⟨rfl, _, Eq.trans (World.drewN_drewN _ _ _) (congrArg (World.drewN _) (Nat.add_assoc _ _ _))⟩)))
  go_wp2
  go_ret
  exact ⟨by first | rfl | (simp; done) | (simp [*]; done), by repeat (first | exact Drawn0.refl _ | apply Drawn0.step)⟩

set_option maxHeartbeats 8000000 in
set_option maxRecDepth 100000 in
theorem rot7 (a0 r s u : Int) (w : World) (h0 : 0 ≤ s) (h1 : s ≤ 4294967295) (A : Aside0 (samphireref01_Word.f a0 = some s)) (hu : IntKind.i64.wrap (s * 128) = u) (B : Aside0 (samphireref01_Word.f (Go.bits .or .i64 u (s / 33554432)) = some r)) :
    Calls Try.prog 19 #[.int .i64 a0, .int .i64 7] w fun e w' => e = .returned (.int .i64 r) ∧ Drawn0 w w' := by
  have e : Go.bits .and .i64 7 31 = 7 := by kernel_rfl
  have e2 : IntKind.i64.wrap 25 = 25 := by kernel_rfl
  go_enter Try.func19, Try.ntmps19
  go_wp2
  go_quiet (first | (go_at_call 17; (with_reducible refine (samphireref01_Word.calls a0 s _ A.out).mono ?_); rintro e w' ⟨rfl, ⟨nd, rfl⟩⟩; (try first | exact ⟨rfl, _, World.drewN_drewN _ _ _⟩ | exact ⟨rfl, _, Eq.trans (World.drewN_drewN _ _ _) (congrArg (World.drewN _) (Nat.add_assoc _ _ _))⟩)) | (go_at_call 17; (with_reducible refine (samphireref01_Word.calls (Go.bits .or .i64 u (s / 33554432)) r _ B.out).mono ?_); rintro e w' ⟨rfl, ⟨nd, rfl⟩⟩; (try first | exact ⟨rfl, _, World.drewN_drewN _ _ _⟩ | exact ⟨rfl, _, Eq.trans (World.drewN_drewN _ _ _) (congrArg (World.drewN _) (Nat.add_assoc _ _ _))⟩)))
  go_wp2
  go_ret
  exact ⟨by first | rfl | (simp; done) | (simp [*]; done), by repeat (first | exact Drawn0.refl _ | apply Drawn0.step)⟩

theorem samphireref01_Rot.calls (a0 a1 r : Int) (w : World) (h : samphireref01_Rot.f a0 a1 = some r) :
    Calls Try.prog 19 #[.int .i64 a0, .int .i64 a1] w fun e w' => e = .returned (.int .i64 r) ∧ Drawn0 w w' := by
  unfold samphireref01_Rot.f at h
  have b := lo32_nonneg a0
  have A : Aside0 (samphireref01_Word.f a0 = some (lo32 a0)) := ⟨rfl⟩
  split at h
  · rename_i c
    have h := Option.some.inj h
    rcases c with rfl | rfl | rfl | rfl
    · exact rot16 a0 r (lo32 a0) _ w b.1 b.2 A (i64_w _) ⟨word_is _ _ h⟩
    · exact rot12 a0 r (lo32 a0) _ w b.1 b.2 A (i64_w _) ⟨word_is _ _ h⟩
    · exact rot8 a0 r (lo32 a0) _ w b.1 b.2 A (i64_w _) ⟨word_is _ _ h⟩
    · exact rot7 a0 r (lo32 a0) _ w b.1 b.2 A (i64_w _) ⟨word_is _ _ h⟩
  · cases h
end Go.Proofs.Ytlipgfahjmgekaa.S
