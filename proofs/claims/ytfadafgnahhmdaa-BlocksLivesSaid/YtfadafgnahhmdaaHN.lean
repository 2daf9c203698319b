import Derived.Test.YtfadafgnahhmdaaHK
set_option linter.unusedVariables false
set_option linter.unusedSimpArgs false
namespace Go.Proofs.Ytfadafgnahhmdaa.X
open Go.RowKit Go.Proofs.YtfadafgnahhmdaaW.PrintWords Go.Proofs.YtfadafgnahhmdaaW.PrintLast Go.Proofs.YtfadafgnahhmdaaW.PrintMore Go.Proofs.Ytfadafgnahhmdaa.E
attribute [local go_sem] max2_int min2_int max_two min_two max_three min_three max_four min_four
set_option linter.unusedVariables false
set_option linter.unusedSimpArgs false

open B (b2i upd)
theorem at1_S1 : atI n1 ⟨#[83, 49]⟩ = 0 := by decide
theorem at1_R : atI n1 ⟨#[82]⟩ = 1 := by decide
theorem at1_Q1 : atI n1 ⟨#[81, 49]⟩ = 2 := by decide
theorem at2_S : atI n2 ⟨#[83]⟩ = 0 := by decide
theorem at2_R1 : atI n2 ⟨#[82, 49]⟩ = 1 := by decide
theorem at2_Q1 : atI n2 ⟨#[81, 49]⟩ = 2 := by decide
theorem at3_CLK : atI n3 ⟨#[67, 76, 75]⟩ = 0 := by decide
theorem at3_Q : atI n3 ⟨#[81]⟩ = 1 := by decide
theorem at3_M : atI n3 ⟨#[77]⟩ = 2 := by decide
theorem at4_CLK : atI n4 ⟨#[67, 76, 75]⟩ = 0 := by decide
theorem at4_Q : atI n4 ⟨#[81]⟩ = 1 := by decide
theorem at4_M : atI n4 ⟨#[77]⟩ = 2 := by decide
set_option maxHeartbeats 16000000 in
set_option maxRecDepth 100000 in
theorem plain1 {w0 w : World} {base : Nat} {A : Option Addr} {c g cap : Nat} (a b q : Bool) (h : Aside0 (S2 w base A 3 c g 3 cap n1 [b2i a, b2i b, b2i q])) (hg : Aside0 (w0.grownBy w (some g))) :
    Calls Try.prog 44 #[.agg #[.slice A 3 c, .slice (some ⟨g, 0, none⟩) 3 cap], .int .i64 1] w fun e w' => e = .returned (.tuple #[]) ∧ Aside0 (S2 w' base A 3 c g 3 cap n1 [b2i a, b2i b, b2i (a || (q && !b))]) ∧ Aside0 (w0.grownBy w' (some g)) := by
  have hu81 := Try.underlying81
  obtain ⟨wb, hwb, HS, HG0, HG, HF⟩ := S2.boxA h hg
  clear h hg
  obtain ⟨c0, c1⟩ := HF.out wb HG.out
  obtain ⟨bk, hbk⟩ : ∃ bk, bk = w.heap.size := ⟨_, rfl⟩
  rw [← hbk] at HF c0 c1
  cases a with
  | true =>
    go_enter Try.func44, Try.ntmps44
    go_wp2_with fail
    rw [← hwb, ← hbk]
    clear hwb hbk
    (have hun : undef = Value.tuple #[] := rfl; have hs := S2.drewA HS; have hg := Aside0.mk (grown_drew HG.out); clear c0 c1 HS HG; obtain ⟨c0, c1⟩ := HF.out _ hg.out; have HS := hs; have HG := hg; clear hs hg; first | go_region_with (first | ((with_reducible show Calls Try.prog 64 #[_, .string ⟨#[83, 49]⟩] _ _); refine (isA HS HG ⟨#[83, 49]⟩ at1_S1 (by decide) rfl).mono ?_; rintro e wd ⟨rfl, hs, hg⟩; clear c0 c1 HS HG; obtain ⟨c0, c1⟩ := HF.out _ hg.out; have HS := hs; have HG := hg; clear hs hg) | ((with_reducible show Calls Try.prog 64 #[_, .string ⟨#[81, 49]⟩] _ _); refine (isA HS HG ⟨#[81, 49]⟩ at1_Q1 (by decide) rfl).mono ?_; rintro e wd ⟨rfl, hs, hg⟩; clear c0 c1 HS HG; obtain ⟨c0, c1⟩ := HF.out _ hg.out; have HS := hs; have HG := hg; clear hs hg) | ((with_reducible show Calls Try.prog 64 #[_, .string ⟨#[82]⟩] _ _); refine (isA HS HG ⟨#[82]⟩ at1_R (by decide) rfl).mono ?_; rintro e wd ⟨rfl, hs, hg⟩; clear c0 c1 HS HG; obtain ⟨c0, c1⟩ := HF.out _ hg.out; have HS := hs; have HG := hg; clear hs hg) | ((with_reducible show Calls Try.prog 63 #[_, .string ⟨#[81, 49]⟩, _] _ _); refine (sayA HS HG ⟨#[81, 49]⟩ at1_Q1 (by decide) rfl _).mono ?_; rintro e wd ⟨rfl, hs, hg⟩; (try simp only [List.set] at hs); clear c0 c1 HS HG; obtain ⟨c0, c1⟩ := HF.out _ hg.out; have HS := hs; have HG := hg; clear hs hg)) | fail)
    all_goals (go_wp2; go_end0; exact ⟨rfl, HS, ⟨World.grownBy.trans HG0.out HG.out⟩⟩)
  | false =>
    cases q with
    | false =>
      go_enter Try.func44, Try.ntmps44
      go_wp2_with fail
      rw [← hwb, ← hbk]
      clear hwb hbk
      (have hun : undef = Value.tuple #[] := rfl; have hs := S2.drewA HS; have hg := Aside0.mk (grown_drew HG.out); clear c0 c1 HS HG; obtain ⟨c0, c1⟩ := HF.out _ hg.out; have HS := hs; have HG := hg; clear hs hg; first | go_region_with (first | ((with_reducible show Calls Try.prog 64 #[_, .string ⟨#[83, 49]⟩] _ _); refine (isA HS HG ⟨#[83, 49]⟩ at1_S1 (by decide) rfl).mono ?_; rintro e wd ⟨rfl, hs, hg⟩; clear c0 c1 HS HG; obtain ⟨c0, c1⟩ := HF.out _ hg.out; have HS := hs; have HG := hg; clear hs hg) | ((with_reducible show Calls Try.prog 64 #[_, .string ⟨#[81, 49]⟩] _ _); refine (isA HS HG ⟨#[81, 49]⟩ at1_Q1 (by decide) rfl).mono ?_; rintro e wd ⟨rfl, hs, hg⟩; clear c0 c1 HS HG; obtain ⟨c0, c1⟩ := HF.out _ hg.out; have HS := hs; have HG := hg; clear hs hg) | ((with_reducible show Calls Try.prog 64 #[_, .string ⟨#[82]⟩] _ _); refine (isA HS HG ⟨#[82]⟩ at1_R (by decide) rfl).mono ?_; rintro e wd ⟨rfl, hs, hg⟩; clear c0 c1 HS HG; obtain ⟨c0, c1⟩ := HF.out _ hg.out; have HS := hs; have HG := hg; clear hs hg) | ((with_reducible show Calls Try.prog 63 #[_, .string ⟨#[81, 49]⟩, _] _ _); refine (sayA HS HG ⟨#[81, 49]⟩ at1_Q1 (by decide) rfl _).mono ?_; rintro e wd ⟨rfl, hs, hg⟩; (try simp only [List.set] at hs); clear c0 c1 HS HG; obtain ⟨c0, c1⟩ := HF.out _ hg.out; have HS := hs; have HG := hg; clear hs hg)) | fail)
      all_goals (go_wp2; go_end0; exact ⟨rfl, HS, ⟨World.grownBy.trans HG0.out HG.out⟩⟩)
    | true =>
      cases b with
      | false =>
        go_enter Try.func44, Try.ntmps44
        go_wp2_with fail
        rw [← hwb, ← hbk]
        clear hwb hbk
        (have hun : undef = Value.tuple #[] := rfl; have hs := S2.drewA HS; have hg := Aside0.mk (grown_drew HG.out); clear c0 c1 HS HG; obtain ⟨c0, c1⟩ := HF.out _ hg.out; have HS := hs; have HG := hg; clear hs hg; first | go_region_held3 (fun w' => w'.cell? ⟨bk, 0, none⟩ = some (.slice A 3 c) ∧ w'.cell? ⟨bk, 1, none⟩ = some (.slice (some ⟨g, 0, none⟩) 3 cap)) (exact HF.out _ HG.out) ((first | ((with_reducible show Calls Try.prog 64 #[_, .string ⟨#[83, 49]⟩] _ _); refine (isA HS HG ⟨#[83, 49]⟩ at1_S1 (by decide) rfl).mono ?_; rintro e wd ⟨rfl, hs, hg⟩; clear c0 c1 HS HG; obtain ⟨c0, c1⟩ := HF.out _ hg.out; have HS := hs; have HG := hg; clear hs hg) | ((with_reducible show Calls Try.prog 64 #[_, .string ⟨#[81, 49]⟩] _ _); refine (isA HS HG ⟨#[81, 49]⟩ at1_Q1 (by decide) rfl).mono ?_; rintro e wd ⟨rfl, hs, hg⟩; clear c0 c1 HS HG; obtain ⟨c0, c1⟩ := HF.out _ hg.out; have HS := hs; have HG := hg; clear hs hg) | ((with_reducible show Calls Try.prog 64 #[_, .string ⟨#[82]⟩] _ _); refine (isA HS HG ⟨#[82]⟩ at1_R (by decide) rfl).mono ?_; rintro e wd ⟨rfl, hs, hg⟩; clear c0 c1 HS HG; obtain ⟨c0, c1⟩ := HF.out _ hg.out; have HS := hs; have HG := hg; clear hs hg) | ((with_reducible show Calls Try.prog 63 #[_, .string ⟨#[81, 49]⟩, _] _ _); refine (sayA HS HG ⟨#[81, 49]⟩ at1_Q1 (by decide) rfl _).mono ?_; rintro e wd ⟨rfl, hs, hg⟩; (try simp only [List.set] at hs); clear c0 c1 HS HG; obtain ⟨c0, c1⟩ := HF.out _ hg.out; have HS := hs; have HG := hg; clear hs hg))) | fail)
        all_goals (go_wp2; go_end0; exact ⟨rfl, HS, ⟨World.grownBy.trans HG0.out HG.out⟩⟩)
      | true =>
        go_enter Try.func44, Try.ntmps44
        go_wp2_with fail
        rw [← hwb, ← hbk]
        clear hwb hbk
        (have hun : undef = Value.tuple #[] := rfl; have hs := S2.drewA HS; have hg := Aside0.mk (grown_drew HG.out); clear c0 c1 HS HG; obtain ⟨c0, c1⟩ := HF.out _ hg.out; have HS := hs; have HG := hg; clear hs hg; first | go_region_held3 (fun w' => w'.cell? ⟨bk, 0, none⟩ = some (.slice A 3 c) ∧ w'.cell? ⟨bk, 1, none⟩ = some (.slice (some ⟨g, 0, none⟩) 3 cap)) (exact HF.out _ HG.out) ((first | ((with_reducible show Calls Try.prog 64 #[_, .string ⟨#[83, 49]⟩] _ _); refine (isA HS HG ⟨#[83, 49]⟩ at1_S1 (by decide) rfl).mono ?_; rintro e wd ⟨rfl, hs, hg⟩; clear c0 c1 HS HG; obtain ⟨c0, c1⟩ := HF.out _ hg.out; have HS := hs; have HG := hg; clear hs hg) | ((with_reducible show Calls Try.prog 64 #[_, .string ⟨#[81, 49]⟩] _ _); refine (isA HS HG ⟨#[81, 49]⟩ at1_Q1 (by decide) rfl).mono ?_; rintro e wd ⟨rfl, hs, hg⟩; clear c0 c1 HS HG; obtain ⟨c0, c1⟩ := HF.out _ hg.out; have HS := hs; have HG := hg; clear hs hg) | ((with_reducible show Calls Try.prog 64 #[_, .string ⟨#[82]⟩] _ _); refine (isA HS HG ⟨#[82]⟩ at1_R (by decide) rfl).mono ?_; rintro e wd ⟨rfl, hs, hg⟩; clear c0 c1 HS HG; obtain ⟨c0, c1⟩ := HF.out _ hg.out; have HS := hs; have HG := hg; clear hs hg) | ((with_reducible show Calls Try.prog 63 #[_, .string ⟨#[81, 49]⟩, _] _ _); refine (sayA HS HG ⟨#[81, 49]⟩ at1_Q1 (by decide) rfl _).mono ?_; rintro e wd ⟨rfl, hs, hg⟩; (try simp only [List.set] at hs); clear c0 c1 HS HG; obtain ⟨c0, c1⟩ := HF.out _ hg.out; have HS := hs; have HG := hg; clear hs hg))) | fail)
        all_goals (go_wp2; go_end0; exact ⟨rfl, HS, ⟨World.grownBy.trans HG0.out HG.out⟩⟩)
set_option maxHeartbeats 16000000 in
set_option maxRecDepth 100000 in
theorem plain2 {w0 w : World} {base : Nat} {A : Option Addr} {c g cap : Nat} (a b q : Bool) (h : Aside0 (S2 w base A 3 c g 3 cap n2 [b2i a, b2i b, b2i q])) (hg : Aside0 (w0.grownBy w (some g))) :
    Calls Try.prog 44 #[.agg #[.slice A 3 c, .slice (some ⟨g, 0, none⟩) 3 cap], .int .i64 2] w fun e w' => e = .returned (.tuple #[]) ∧ Aside0 (S2 w' base A 3 c g 3 cap n2 [b2i a, b2i b, b2i (!b && (a || q))]) ∧ Aside0 (w0.grownBy w' (some g)) := by
  have hu81 := Try.underlying81
  obtain ⟨wb, hwb, HS, HG0, HG, HF⟩ := S2.boxA h hg
  clear h hg
  obtain ⟨c0, c1⟩ := HF.out wb HG.out
  obtain ⟨bk, hbk⟩ : ∃ bk, bk = w.heap.size := ⟨_, rfl⟩
  rw [← hbk] at HF c0 c1
  cases b with
  | true =>
    go_enter Try.func44, Try.ntmps44
    go_wp2_with fail
    rw [← hwb, ← hbk]
    clear hwb hbk
    (have hun : undef = Value.tuple #[] := rfl; have hs := S2.drewA HS; have hg := Aside0.mk (grown_drew HG.out); clear c0 c1 HS HG; obtain ⟨c0, c1⟩ := HF.out _ hg.out; have HS := hs; have HG := hg; clear hs hg; first | go_region_with (first | ((with_reducible show Calls Try.prog 64 #[_, .string ⟨#[82, 49]⟩] _ _); refine (isA HS HG ⟨#[82, 49]⟩ at2_R1 (by decide) rfl).mono ?_; rintro e wd ⟨rfl, hs, hg⟩; clear c0 c1 HS HG; obtain ⟨c0, c1⟩ := HF.out _ hg.out; have HS := hs; have HG := hg; clear hs hg) | ((with_reducible show Calls Try.prog 64 #[_, .string ⟨#[83]⟩] _ _); refine (isA HS HG ⟨#[83]⟩ at2_S (by decide) rfl).mono ?_; rintro e wd ⟨rfl, hs, hg⟩; clear c0 c1 HS HG; obtain ⟨c0, c1⟩ := HF.out _ hg.out; have HS := hs; have HG := hg; clear hs hg) | ((with_reducible show Calls Try.prog 64 #[_, .string ⟨#[81, 49]⟩] _ _); refine (isA HS HG ⟨#[81, 49]⟩ at2_Q1 (by decide) rfl).mono ?_; rintro e wd ⟨rfl, hs, hg⟩; clear c0 c1 HS HG; obtain ⟨c0, c1⟩ := HF.out _ hg.out; have HS := hs; have HG := hg; clear hs hg) | ((with_reducible show Calls Try.prog 63 #[_, .string ⟨#[81, 49]⟩, _] _ _); refine (sayA HS HG ⟨#[81, 49]⟩ at2_Q1 (by decide) rfl _).mono ?_; rintro e wd ⟨rfl, hs, hg⟩; (try simp only [List.set] at hs); clear c0 c1 HS HG; obtain ⟨c0, c1⟩ := HF.out _ hg.out; have HS := hs; have HG := hg; clear hs hg)) | fail)
    all_goals (go_wp2; go_end0; exact ⟨rfl, HS, ⟨World.grownBy.trans HG0.out HG.out⟩⟩)
  | false =>
    cases a with
    | true =>
      go_enter Try.func44, Try.ntmps44
      go_wp2_with fail
      rw [← hwb, ← hbk]
      clear hwb hbk
      (have hun : undef = Value.tuple #[] := rfl; have hs := S2.drewA HS; have hg := Aside0.mk (grown_drew HG.out); clear c0 c1 HS HG; obtain ⟨c0, c1⟩ := HF.out _ hg.out; have HS := hs; have HG := hg; clear hs hg; first | go_region_with (first | ((with_reducible show Calls Try.prog 64 #[_, .string ⟨#[82, 49]⟩] _ _); refine (isA HS HG ⟨#[82, 49]⟩ at2_R1 (by decide) rfl).mono ?_; rintro e wd ⟨rfl, hs, hg⟩; clear c0 c1 HS HG; obtain ⟨c0, c1⟩ := HF.out _ hg.out; have HS := hs; have HG := hg; clear hs hg) | ((with_reducible show Calls Try.prog 64 #[_, .string ⟨#[83]⟩] _ _); refine (isA HS HG ⟨#[83]⟩ at2_S (by decide) rfl).mono ?_; rintro e wd ⟨rfl, hs, hg⟩; clear c0 c1 HS HG; obtain ⟨c0, c1⟩ := HF.out _ hg.out; have HS := hs; have HG := hg; clear hs hg) | ((with_reducible show Calls Try.prog 64 #[_, .string ⟨#[81, 49]⟩] _ _); refine (isA HS HG ⟨#[81, 49]⟩ at2_Q1 (by decide) rfl).mono ?_; rintro e wd ⟨rfl, hs, hg⟩; clear c0 c1 HS HG; obtain ⟨c0, c1⟩ := HF.out _ hg.out; have HS := hs; have HG := hg; clear hs hg) | ((with_reducible show Calls Try.prog 63 #[_, .string ⟨#[81, 49]⟩, _] _ _); refine (sayA HS HG ⟨#[81, 49]⟩ at2_Q1 (by decide) rfl _).mono ?_; rintro e wd ⟨rfl, hs, hg⟩; (try simp only [List.set] at hs); clear c0 c1 HS HG; obtain ⟨c0, c1⟩ := HF.out _ hg.out; have HS := hs; have HG := hg; clear hs hg)) | fail)
      all_goals (go_wp2; go_end0; exact ⟨rfl, HS, ⟨World.grownBy.trans HG0.out HG.out⟩⟩)
    | false =>
      cases q with
      | false =>
        go_enter Try.func44, Try.ntmps44
        go_wp2_with fail
        rw [← hwb, ← hbk]
        clear hwb hbk
        (have hun : undef = Value.tuple #[] := rfl; have hs := S2.drewA HS; have hg := Aside0.mk (grown_drew HG.out); clear c0 c1 HS HG; obtain ⟨c0, c1⟩ := HF.out _ hg.out; have HS := hs; have HG := hg; clear hs hg; first | go_region_held3 (fun w' => w'.cell? ⟨bk, 0, none⟩ = some (.slice A 3 c) ∧ w'.cell? ⟨bk, 1, none⟩ = some (.slice (some ⟨g, 0, none⟩) 3 cap)) (exact HF.out _ HG.out) ((first | ((with_reducible show Calls Try.prog 64 #[_, .string ⟨#[82, 49]⟩] _ _); refine (isA HS HG ⟨#[82, 49]⟩ at2_R1 (by decide) rfl).mono ?_; rintro e wd ⟨rfl, hs, hg⟩; clear c0 c1 HS HG; obtain ⟨c0, c1⟩ := HF.out _ hg.out; have HS := hs; have HG := hg; clear hs hg) | ((with_reducible show Calls Try.prog 64 #[_, .string ⟨#[83]⟩] _ _); refine (isA HS HG ⟨#[83]⟩ at2_S (by decide) rfl).mono ?_; rintro e wd ⟨rfl, hs, hg⟩; clear c0 c1 HS HG; obtain ⟨c0, c1⟩ := HF.out _ hg.out; have HS := hs; have HG := hg; clear hs hg) | ((with_reducible show Calls Try.prog 64 #[_, .string ⟨#[81, 49]⟩] _ _); refine (isA HS HG ⟨#[81, 49]⟩ at2_Q1 (by decide) rfl).mono ?_; rintro e wd ⟨rfl, hs, hg⟩; clear c0 c1 HS HG; obtain ⟨c0, c1⟩ := HF.out _ hg.out; have HS := hs; have HG := hg; clear hs hg) | ((with_reducible show Calls Try.prog 63 #[_, .string ⟨#[81, 49]⟩, _] _ _); refine (sayA HS HG ⟨#[81, 49]⟩ at2_Q1 (by decide) rfl _).mono ?_; rintro e wd ⟨rfl, hs, hg⟩; (try simp only [List.set] at hs); clear c0 c1 HS HG; obtain ⟨c0, c1⟩ := HF.out _ hg.out; have HS := hs; have HG := hg; clear hs hg))) | fail)
        all_goals (go_wp2; go_end0; exact ⟨rfl, HS, ⟨World.grownBy.trans HG0.out HG.out⟩⟩)
      | true =>
        go_enter Try.func44, Try.ntmps44
        go_wp2_with fail
        rw [← hwb, ← hbk]
        clear hwb hbk
        (have hun : undef = Value.tuple #[] := rfl; have hs := S2.drewA HS; have hg := Aside0.mk (grown_drew HG.out); clear c0 c1 HS HG; obtain ⟨c0, c1⟩ := HF.out _ hg.out; have HS := hs; have HG := hg; clear hs hg; first | go_region_held3 (fun w' => w'.cell? ⟨bk, 0, none⟩ = some (.slice A 3 c) ∧ w'.cell? ⟨bk, 1, none⟩ = some (.slice (some ⟨g, 0, none⟩) 3 cap)) (exact HF.out _ HG.out) ((first | ((with_reducible show Calls Try.prog 64 #[_, .string ⟨#[82, 49]⟩] _ _); refine (isA HS HG ⟨#[82, 49]⟩ at2_R1 (by decide) rfl).mono ?_; rintro e wd ⟨rfl, hs, hg⟩; clear c0 c1 HS HG; obtain ⟨c0, c1⟩ := HF.out _ hg.out; have HS := hs; have HG := hg; clear hs hg) | ((with_reducible show Calls Try.prog 64 #[_, .string ⟨#[83]⟩] _ _); refine (isA HS HG ⟨#[83]⟩ at2_S (by decide) rfl).mono ?_; rintro e wd ⟨rfl, hs, hg⟩; clear c0 c1 HS HG; obtain ⟨c0, c1⟩ := HF.out _ hg.out; have HS := hs; have HG := hg; clear hs hg) | ((with_reducible show Calls Try.prog 64 #[_, .string ⟨#[81, 49]⟩] _ _); refine (isA HS HG ⟨#[81, 49]⟩ at2_Q1 (by decide) rfl).mono ?_; rintro e wd ⟨rfl, hs, hg⟩; clear c0 c1 HS HG; obtain ⟨c0, c1⟩ := HF.out _ hg.out; have HS := hs; have HG := hg; clear hs hg) | ((with_reducible show Calls Try.prog 63 #[_, .string ⟨#[81, 49]⟩, _] _ _); refine (sayA HS HG ⟨#[81, 49]⟩ at2_Q1 (by decide) rfl _).mono ?_; rintro e wd ⟨rfl, hs, hg⟩; (try simp only [List.set] at hs); clear c0 c1 HS HG; obtain ⟨c0, c1⟩ := HF.out _ hg.out; have HS := hs; have HG := hg; clear hs hg))) | fail)
        all_goals (go_wp2; go_end0; exact ⟨rfl, HS, ⟨World.grownBy.trans HG0.out HG.out⟩⟩)
set_option maxHeartbeats 16000000 in
set_option maxRecDepth 100000 in
theorem plain3 {w0 w : World} {base : Nat} {A : Option Addr} {c g cap : Nat} (a b q : Bool) (h : Aside0 (S2 w base A 3 c g 3 cap n3 [b2i a, b2i b, b2i q])) (hg : Aside0 (w0.grownBy w (some g))) :
    Calls Try.prog 44 #[.agg #[.slice A 3 c, .slice (some ⟨g, 0, none⟩) 3 cap], .int .i64 3] w fun e w' => e = .returned (.tuple #[]) ∧ Aside0 (S2 w' base A 3 c g 3 cap n3 [b2i a, b2i (a && !q), b2i a]) ∧ Aside0 (w0.grownBy w' (some g)) := by
  have hu81 := Try.underlying81
  obtain ⟨wb, hwb, HS, HG0, HG, HF⟩ := S2.boxA h hg
  clear h hg
  obtain ⟨c0, c1⟩ := HF.out wb HG.out
  obtain ⟨bk, hbk⟩ : ∃ bk, bk = w.heap.size := ⟨_, rfl⟩
  rw [← hbk] at HF c0 c1
  cases a with
  | false =>
    go_enter Try.func44, Try.ntmps44
    go_wp2_with fail
    rw [← hwb, ← hbk]
    clear hwb hbk
    (have hun : undef = Value.tuple #[] := rfl; have hs := S2.drewA HS; have hg := Aside0.mk (grown_drew HG.out); clear c0 c1 HS HG; obtain ⟨c0, c1⟩ := HF.out _ hg.out; have HS := hs; have HG := hg; clear hs hg; first | go_region_with (first | ((with_reducible show Calls Try.prog 64 #[_, .string ⟨#[67, 76, 75]⟩] _ _); refine (isA HS HG ⟨#[67, 76, 75]⟩ at3_CLK (by decide) rfl).mono ?_; rintro e wd ⟨rfl, hs, hg⟩; clear c0 c1 HS HG; obtain ⟨c0, c1⟩ := HF.out _ hg.out; have HS := hs; have HG := hg; clear hs hg) | ((with_reducible show Calls Try.prog 64 #[_, .string ⟨#[77]⟩] _ _); refine (isA HS HG ⟨#[77]⟩ at3_M (by decide) rfl).mono ?_; rintro e wd ⟨rfl, hs, hg⟩; clear c0 c1 HS HG; obtain ⟨c0, c1⟩ := HF.out _ hg.out; have HS := hs; have HG := hg; clear hs hg) | ((with_reducible show Calls Try.prog 63 #[_, .string ⟨#[81]⟩, _] _ _); refine (sayA HS HG ⟨#[81]⟩ at3_Q (by decide) rfl _).mono ?_; rintro e wd ⟨rfl, hs, hg⟩; (try simp only [List.set] at hs); clear c0 c1 HS HG; obtain ⟨c0, c1⟩ := HF.out _ hg.out; have HS := hs; have HG := hg; clear hs hg) | ((with_reducible show Calls Try.prog 63 #[_, .string ⟨#[77]⟩, _] _ _); refine (sayA HS HG ⟨#[77]⟩ at3_M (by decide) rfl _).mono ?_; rintro e wd ⟨rfl, hs, hg⟩; (try simp only [List.set] at hs); clear c0 c1 HS HG; obtain ⟨c0, c1⟩ := HF.out _ hg.out; have HS := hs; have HG := hg; clear hs hg)) | fail)
    all_goals (try clear hun)
    all_goals go_wp2_with fail
    all_goals (have hun : undef = Value.tuple #[] := rfl; have hs := S2.drewA HS; have hg := Aside0.mk (grown_drew HG.out); clear c0 c1 HS HG; obtain ⟨c0, c1⟩ := HF.out _ hg.out; have HS := hs; have HG := hg; clear hs hg; first | go_region_held3 (fun w' => w'.cell? ⟨bk, 0, none⟩ = some (.slice A 3 c) ∧ w'.cell? ⟨bk, 1, none⟩ = some (.slice (some ⟨g, 0, none⟩) 3 cap)) (exact HF.out _ HG.out) ((first | ((with_reducible show Calls Try.prog 64 #[_, .string ⟨#[67, 76, 75]⟩] _ _); refine (isA HS HG ⟨#[67, 76, 75]⟩ at3_CLK (by decide) rfl).mono ?_; rintro e wd ⟨rfl, hs, hg⟩; clear c0 c1 HS HG; obtain ⟨c0, c1⟩ := HF.out _ hg.out; have HS := hs; have HG := hg; clear hs hg) | ((with_reducible show Calls Try.prog 64 #[_, .string ⟨#[77]⟩] _ _); refine (isA HS HG ⟨#[77]⟩ at3_M (by decide) rfl).mono ?_; rintro e wd ⟨rfl, hs, hg⟩; clear c0 c1 HS HG; obtain ⟨c0, c1⟩ := HF.out _ hg.out; have HS := hs; have HG := hg; clear hs hg) | ((with_reducible show Calls Try.prog 63 #[_, .string ⟨#[81]⟩, _] _ _); refine (sayA HS HG ⟨#[81]⟩ at3_Q (by decide) rfl _).mono ?_; rintro e wd ⟨rfl, hs, hg⟩; (try simp only [List.set] at hs); clear c0 c1 HS HG; obtain ⟨c0, c1⟩ := HF.out _ hg.out; have HS := hs; have HG := hg; clear hs hg) | ((with_reducible show Calls Try.prog 63 #[_, .string ⟨#[77]⟩, _] _ _); refine (sayA HS HG ⟨#[77]⟩ at3_M (by decide) rfl _).mono ?_; rintro e wd ⟨rfl, hs, hg⟩; (try simp only [List.set] at hs); clear c0 c1 HS HG; obtain ⟨c0, c1⟩ := HF.out _ hg.out; have HS := hs; have HG := hg; clear hs hg))) | fail)
    all_goals (go_wp2; go_end0; exact ⟨rfl, HS, ⟨World.grownBy.trans HG0.out HG.out⟩⟩)
  | true =>
    cases q with
    | false =>
      go_enter Try.func44, Try.ntmps44
      go_wp2_with fail
      rw [← hwb, ← hbk]
      clear hwb hbk
      (have hun : undef = Value.tuple #[] := rfl; have hs := S2.drewA HS; have hg := Aside0.mk (grown_drew HG.out); clear c0 c1 HS HG; obtain ⟨c0, c1⟩ := HF.out _ hg.out; have HS := hs; have HG := hg; clear hs hg; first | go_region_held3 (fun w' => w'.cell? ⟨bk, 0, none⟩ = some (.slice A 3 c) ∧ w'.cell? ⟨bk, 1, none⟩ = some (.slice (some ⟨g, 0, none⟩) 3 cap)) (exact HF.out _ HG.out) ((first | ((with_reducible show Calls Try.prog 64 #[_, .string ⟨#[67, 76, 75]⟩] _ _); refine (isA HS HG ⟨#[67, 76, 75]⟩ at3_CLK (by decide) rfl).mono ?_; rintro e wd ⟨rfl, hs, hg⟩; clear c0 c1 HS HG; obtain ⟨c0, c1⟩ := HF.out _ hg.out; have HS := hs; have HG := hg; clear hs hg) | ((with_reducible show Calls Try.prog 64 #[_, .string ⟨#[77]⟩] _ _); refine (isA HS HG ⟨#[77]⟩ at3_M (by decide) rfl).mono ?_; rintro e wd ⟨rfl, hs, hg⟩; clear c0 c1 HS HG; obtain ⟨c0, c1⟩ := HF.out _ hg.out; have HS := hs; have HG := hg; clear hs hg) | ((with_reducible show Calls Try.prog 63 #[_, .string ⟨#[81]⟩, _] _ _); refine (sayA HS HG ⟨#[81]⟩ at3_Q (by decide) rfl _).mono ?_; rintro e wd ⟨rfl, hs, hg⟩; (try simp only [List.set] at hs); clear c0 c1 HS HG; obtain ⟨c0, c1⟩ := HF.out _ hg.out; have HS := hs; have HG := hg; clear hs hg) | ((with_reducible show Calls Try.prog 63 #[_, .string ⟨#[77]⟩, _] _ _); refine (sayA HS HG ⟨#[77]⟩ at3_M (by decide) rfl _).mono ?_; rintro e wd ⟨rfl, hs, hg⟩; (try simp only [List.set] at hs); clear c0 c1 HS HG; obtain ⟨c0, c1⟩ := HF.out _ hg.out; have HS := hs; have HG := hg; clear hs hg))) | fail)
      all_goals (try clear hun)
      all_goals go_wp2_with fail
      all_goals (have hun : undef = Value.tuple #[] := rfl; have hs := S2.drewA HS; have hg := Aside0.mk (grown_drew HG.out); clear c0 c1 HS HG; obtain ⟨c0, c1⟩ := HF.out _ hg.out; have HS := hs; have HG := hg; clear hs hg; first | go_region_held3 (fun w' => w'.cell? ⟨bk, 0, none⟩ = some (.slice A 3 c) ∧ w'.cell? ⟨bk, 1, none⟩ = some (.slice (some ⟨g, 0, none⟩) 3 cap)) (exact HF.out _ HG.out) ((first | ((with_reducible show Calls Try.prog 64 #[_, .string ⟨#[67, 76, 75]⟩] _ _); refine (isA HS HG ⟨#[67, 76, 75]⟩ at3_CLK (by decide) rfl).mono ?_; rintro e wd ⟨rfl, hs, hg⟩; clear c0 c1 HS HG; obtain ⟨c0, c1⟩ := HF.out _ hg.out; have HS := hs; have HG := hg; clear hs hg) | ((with_reducible show Calls Try.prog 64 #[_, .string ⟨#[77]⟩] _ _); refine (isA HS HG ⟨#[77]⟩ at3_M (by decide) rfl).mono ?_; rintro e wd ⟨rfl, hs, hg⟩; clear c0 c1 HS HG; obtain ⟨c0, c1⟩ := HF.out _ hg.out; have HS := hs; have HG := hg; clear hs hg) | ((with_reducible show Calls Try.prog 63 #[_, .string ⟨#[81]⟩, _] _ _); refine (sayA HS HG ⟨#[81]⟩ at3_Q (by decide) rfl _).mono ?_; rintro e wd ⟨rfl, hs, hg⟩; (try simp only [List.set] at hs); clear c0 c1 HS HG; obtain ⟨c0, c1⟩ := HF.out _ hg.out; have HS := hs; have HG := hg; clear hs hg) | ((with_reducible show Calls Try.prog 63 #[_, .string ⟨#[77]⟩, _] _ _); refine (sayA HS HG ⟨#[77]⟩ at3_M (by decide) rfl _).mono ?_; rintro e wd ⟨rfl, hs, hg⟩; (try simp only [List.set] at hs); clear c0 c1 HS HG; obtain ⟨c0, c1⟩ := HF.out _ hg.out; have HS := hs; have HG := hg; clear hs hg))) | fail)
      all_goals (go_wp2; go_end0; exact ⟨rfl, HS, ⟨World.grownBy.trans HG0.out HG.out⟩⟩)
    | true =>
      go_enter Try.func44, Try.ntmps44
      go_wp2_with fail
      rw [← hwb, ← hbk]
      clear hwb hbk
      (have hun : undef = Value.tuple #[] := rfl; have hs := S2.drewA HS; have hg := Aside0.mk (grown_drew HG.out); clear c0 c1 HS HG; obtain ⟨c0, c1⟩ := HF.out _ hg.out; have HS := hs; have HG := hg; clear hs hg; first | go_region_held3 (fun w' => w'.cell? ⟨bk, 0, none⟩ = some (.slice A 3 c) ∧ w'.cell? ⟨bk, 1, none⟩ = some (.slice (some ⟨g, 0, none⟩) 3 cap)) (exact HF.out _ HG.out) ((first | ((with_reducible show Calls Try.prog 64 #[_, .string ⟨#[67, 76, 75]⟩] _ _); refine (isA HS HG ⟨#[67, 76, 75]⟩ at3_CLK (by decide) rfl).mono ?_; rintro e wd ⟨rfl, hs, hg⟩; clear c0 c1 HS HG; obtain ⟨c0, c1⟩ := HF.out _ hg.out; have HS := hs; have HG := hg; clear hs hg) | ((with_reducible show Calls Try.prog 64 #[_, .string ⟨#[77]⟩] _ _); refine (isA HS HG ⟨#[77]⟩ at3_M (by decide) rfl).mono ?_; rintro e wd ⟨rfl, hs, hg⟩; clear c0 c1 HS HG; obtain ⟨c0, c1⟩ := HF.out _ hg.out; have HS := hs; have HG := hg; clear hs hg) | ((with_reducible show Calls Try.prog 63 #[_, .string ⟨#[81]⟩, _] _ _); refine (sayA HS HG ⟨#[81]⟩ at3_Q (by decide) rfl _).mono ?_; rintro e wd ⟨rfl, hs, hg⟩; (try simp only [List.set] at hs); clear c0 c1 HS HG; obtain ⟨c0, c1⟩ := HF.out _ hg.out; have HS := hs; have HG := hg; clear hs hg) | ((with_reducible show Calls Try.prog 63 #[_, .string ⟨#[77]⟩, _] _ _); refine (sayA HS HG ⟨#[77]⟩ at3_M (by decide) rfl _).mono ?_; rintro e wd ⟨rfl, hs, hg⟩; (try simp only [List.set] at hs); clear c0 c1 HS HG; obtain ⟨c0, c1⟩ := HF.out _ hg.out; have HS := hs; have HG := hg; clear hs hg))) | fail)
      all_goals (try clear hun)
      all_goals go_wp2_with fail
      all_goals (have hun : undef = Value.tuple #[] := rfl; have hs := S2.drewA HS; have hg := Aside0.mk (grown_drew HG.out); clear c0 c1 HS HG; obtain ⟨c0, c1⟩ := HF.out _ hg.out; have HS := hs; have HG := hg; clear hs hg; first | go_region_held3 (fun w' => w'.cell? ⟨bk, 0, none⟩ = some (.slice A 3 c) ∧ w'.cell? ⟨bk, 1, none⟩ = some (.slice (some ⟨g, 0, none⟩) 3 cap)) (exact HF.out _ HG.out) ((first | ((with_reducible show Calls Try.prog 64 #[_, .string ⟨#[67, 76, 75]⟩] _ _); refine (isA HS HG ⟨#[67, 76, 75]⟩ at3_CLK (by decide) rfl).mono ?_; rintro e wd ⟨rfl, hs, hg⟩; clear c0 c1 HS HG; obtain ⟨c0, c1⟩ := HF.out _ hg.out; have HS := hs; have HG := hg; clear hs hg) | ((with_reducible show Calls Try.prog 64 #[_, .string ⟨#[77]⟩] _ _); refine (isA HS HG ⟨#[77]⟩ at3_M (by decide) rfl).mono ?_; rintro e wd ⟨rfl, hs, hg⟩; clear c0 c1 HS HG; obtain ⟨c0, c1⟩ := HF.out _ hg.out; have HS := hs; have HG := hg; clear hs hg) | ((with_reducible show Calls Try.prog 63 #[_, .string ⟨#[81]⟩, _] _ _); refine (sayA HS HG ⟨#[81]⟩ at3_Q (by decide) rfl _).mono ?_; rintro e wd ⟨rfl, hs, hg⟩; (try simp only [List.set] at hs); clear c0 c1 HS HG; obtain ⟨c0, c1⟩ := HF.out _ hg.out; have HS := hs; have HG := hg; clear hs hg) | ((with_reducible show Calls Try.prog 63 #[_, .string ⟨#[77]⟩, _] _ _); refine (sayA HS HG ⟨#[77]⟩ at3_M (by decide) rfl _).mono ?_; rintro e wd ⟨rfl, hs, hg⟩; (try simp only [List.set] at hs); clear c0 c1 HS HG; obtain ⟨c0, c1⟩ := HF.out _ hg.out; have HS := hs; have HG := hg; clear hs hg))) | fail)
      all_goals (go_wp2; go_end0; exact ⟨rfl, HS, ⟨World.grownBy.trans HG0.out HG.out⟩⟩)
set_option maxHeartbeats 16000000 in
set_option maxRecDepth 100000 in
theorem plain4 {w0 w : World} {base : Nat} {A : Option Addr} {c g cap : Nat} (a b q : Bool) (h : Aside0 (S2 w base A 3 c g 3 cap n4 [b2i a, b2i b, b2i q])) (hg : Aside0 (w0.grownBy w (some g))) :
    Calls Try.prog 44 #[.agg #[.slice A 3 c, .slice (some ⟨g, 0, none⟩) 3 cap], .int .i64 4] w fun e w' => e = .returned (.tuple #[]) ∧ Aside0 (S2 w' base A 3 c g 3 cap n4 [b2i a, b2i (q && !a), b2i a]) ∧ Aside0 (w0.grownBy w' (some g)) := by
  have hu81 := Try.underlying81
  obtain ⟨wb, hwb, HS, HG0, HG, HF⟩ := S2.boxA h hg
  clear h hg
  obtain ⟨c0, c1⟩ := HF.out wb HG.out
  obtain ⟨bk, hbk⟩ : ∃ bk, bk = w.heap.size := ⟨_, rfl⟩
  rw [← hbk] at HF c0 c1
  cases q with
  | false =>
    go_enter Try.func44, Try.ntmps44
    go_wp2_with fail
    rw [← hwb, ← hbk]
    clear hwb hbk
    (have hun : undef = Value.tuple #[] := rfl; have hs := S2.drewA HS; have hg := Aside0.mk (grown_drew HG.out); clear c0 c1 HS HG; obtain ⟨c0, c1⟩ := HF.out _ hg.out; have HS := hs; have HG := hg; clear hs hg; first | go_region_with (first | ((with_reducible show Calls Try.prog 64 #[_, .string ⟨#[67, 76, 75]⟩] _ _); refine (isA HS HG ⟨#[67, 76, 75]⟩ at4_CLK (by decide) rfl).mono ?_; rintro e wd ⟨rfl, hs, hg⟩; clear c0 c1 HS HG; obtain ⟨c0, c1⟩ := HF.out _ hg.out; have HS := hs; have HG := hg; clear hs hg) | ((with_reducible show Calls Try.prog 64 #[_, .string ⟨#[77]⟩] _ _); refine (isA HS HG ⟨#[77]⟩ at4_M (by decide) rfl).mono ?_; rintro e wd ⟨rfl, hs, hg⟩; clear c0 c1 HS HG; obtain ⟨c0, c1⟩ := HF.out _ hg.out; have HS := hs; have HG := hg; clear hs hg) | ((with_reducible show Calls Try.prog 63 #[_, .string ⟨#[81]⟩, _] _ _); refine (sayA HS HG ⟨#[81]⟩ at4_Q (by decide) rfl _).mono ?_; rintro e wd ⟨rfl, hs, hg⟩; (try simp only [List.set] at hs); clear c0 c1 HS HG; obtain ⟨c0, c1⟩ := HF.out _ hg.out; have HS := hs; have HG := hg; clear hs hg) | ((with_reducible show Calls Try.prog 63 #[_, .string ⟨#[77]⟩, _] _ _); refine (sayA HS HG ⟨#[77]⟩ at4_M (by decide) rfl _).mono ?_; rintro e wd ⟨rfl, hs, hg⟩; (try simp only [List.set] at hs); clear c0 c1 HS HG; obtain ⟨c0, c1⟩ := HF.out _ hg.out; have HS := hs; have HG := hg; clear hs hg)) | fail)
    all_goals (try clear hun)
    all_goals go_wp2_with fail
    all_goals (have hun : undef = Value.tuple #[] := rfl; have hs := S2.drewA HS; have hg := Aside0.mk (grown_drew HG.out); clear c0 c1 HS HG; obtain ⟨c0, c1⟩ := HF.out _ hg.out; have HS := hs; have HG := hg; clear hs hg; first | go_region_held3 (fun w' => w'.cell? ⟨bk, 0, none⟩ = some (.slice A 3 c) ∧ w'.cell? ⟨bk, 1, none⟩ = some (.slice (some ⟨g, 0, none⟩) 3 cap)) (exact HF.out _ HG.out) ((first | ((with_reducible show Calls Try.prog 64 #[_, .string ⟨#[67, 76, 75]⟩] _ _); refine (isA HS HG ⟨#[67, 76, 75]⟩ at4_CLK (by decide) rfl).mono ?_; rintro e wd ⟨rfl, hs, hg⟩; clear c0 c1 HS HG; obtain ⟨c0, c1⟩ := HF.out _ hg.out; have HS := hs; have HG := hg; clear hs hg) | ((with_reducible show Calls Try.prog 64 #[_, .string ⟨#[77]⟩] _ _); refine (isA HS HG ⟨#[77]⟩ at4_M (by decide) rfl).mono ?_; rintro e wd ⟨rfl, hs, hg⟩; clear c0 c1 HS HG; obtain ⟨c0, c1⟩ := HF.out _ hg.out; have HS := hs; have HG := hg; clear hs hg) | ((with_reducible show Calls Try.prog 63 #[_, .string ⟨#[81]⟩, _] _ _); refine (sayA HS HG ⟨#[81]⟩ at4_Q (by decide) rfl _).mono ?_; rintro e wd ⟨rfl, hs, hg⟩; (try simp only [List.set] at hs); clear c0 c1 HS HG; obtain ⟨c0, c1⟩ := HF.out _ hg.out; have HS := hs; have HG := hg; clear hs hg) | ((with_reducible show Calls Try.prog 63 #[_, .string ⟨#[77]⟩, _] _ _); refine (sayA HS HG ⟨#[77]⟩ at4_M (by decide) rfl _).mono ?_; rintro e wd ⟨rfl, hs, hg⟩; (try simp only [List.set] at hs); clear c0 c1 HS HG; obtain ⟨c0, c1⟩ := HF.out _ hg.out; have HS := hs; have HG := hg; clear hs hg))) | fail)
    all_goals (go_wp2; go_end0; exact ⟨rfl, HS, ⟨World.grownBy.trans HG0.out HG.out⟩⟩)
  | true =>
    cases a with
    | false =>
      go_enter Try.func44, Try.ntmps44
      go_wp2_with fail
      rw [← hwb, ← hbk]
      clear hwb hbk
      (have hun : undef = Value.tuple #[] := rfl; have hs := S2.drewA HS; have hg := Aside0.mk (grown_drew HG.out); clear c0 c1 HS HG; obtain ⟨c0, c1⟩ := HF.out _ hg.out; have HS := hs; have HG := hg; clear hs hg; first | go_region_held3 (fun w' => w'.cell? ⟨bk, 0, none⟩ = some (.slice A 3 c) ∧ w'.cell? ⟨bk, 1, none⟩ = some (.slice (some ⟨g, 0, none⟩) 3 cap)) (exact HF.out _ HG.out) ((first | ((with_reducible show Calls Try.prog 64 #[_, .string ⟨#[67, 76, 75]⟩] _ _); refine (isA HS HG ⟨#[67, 76, 75]⟩ at4_CLK (by decide) rfl).mono ?_; rintro e wd ⟨rfl, hs, hg⟩; clear c0 c1 HS HG; obtain ⟨c0, c1⟩ := HF.out _ hg.out; have HS := hs; have HG := hg; clear hs hg) | ((with_reducible show Calls Try.prog 64 #[_, .string ⟨#[77]⟩] _ _); refine (isA HS HG ⟨#[77]⟩ at4_M (by decide) rfl).mono ?_; rintro e wd ⟨rfl, hs, hg⟩; clear c0 c1 HS HG; obtain ⟨c0, c1⟩ := HF.out _ hg.out; have HS := hs; have HG := hg; clear hs hg) | ((with_reducible show Calls Try.prog 63 #[_, .string ⟨#[81]⟩, _] _ _); refine (sayA HS HG ⟨#[81]⟩ at4_Q (by decide) rfl _).mono ?_; rintro e wd ⟨rfl, hs, hg⟩; (try simp only [List.set] at hs); clear c0 c1 HS HG; obtain ⟨c0, c1⟩ := HF.out _ hg.out; have HS := hs; have HG := hg; clear hs hg) | ((with_reducible show Calls Try.prog 63 #[_, .string ⟨#[77]⟩, _] _ _); refine (sayA HS HG ⟨#[77]⟩ at4_M (by decide) rfl _).mono ?_; rintro e wd ⟨rfl, hs, hg⟩; (try simp only [List.set] at hs); clear c0 c1 HS HG; obtain ⟨c0, c1⟩ := HF.out _ hg.out; have HS := hs; have HG := hg; clear hs hg))) | fail)
      all_goals (try clear hun)
      all_goals go_wp2_with fail
      all_goals (have hun : undef = Value.tuple #[] := rfl; have hs := S2.drewA HS; have hg := Aside0.mk (grown_drew HG.out); clear c0 c1 HS HG; obtain ⟨c0, c1⟩ := HF.out _ hg.out; have HS := hs; have HG := hg; clear hs hg; first | go_region_held3 (fun w' => w'.cell? ⟨bk, 0, none⟩ = some (.slice A 3 c) ∧ w'.cell? ⟨bk, 1, none⟩ = some (.slice (some ⟨g, 0, none⟩) 3 cap)) (exact HF.out _ HG.out) ((first | ((with_reducible show Calls Try.prog 64 #[_, .string ⟨#[67, 76, 75]⟩] _ _); refine (isA HS HG ⟨#[67, 76, 75]⟩ at4_CLK (by decide) rfl).mono ?_; rintro e wd ⟨rfl, hs, hg⟩; clear c0 c1 HS HG; obtain ⟨c0, c1⟩ := HF.out _ hg.out; have HS := hs; have HG := hg; clear hs hg) | ((with_reducible show Calls Try.prog 64 #[_, .string ⟨#[77]⟩] _ _); refine (isA HS HG ⟨#[77]⟩ at4_M (by decide) rfl).mono ?_; rintro e wd ⟨rfl, hs, hg⟩; clear c0 c1 HS HG; obtain ⟨c0, c1⟩ := HF.out _ hg.out; have HS := hs; have HG := hg; clear hs hg) | ((with_reducible show Calls Try.prog 63 #[_, .string ⟨#[81]⟩, _] _ _); refine (sayA HS HG ⟨#[81]⟩ at4_Q (by decide) rfl _).mono ?_; rintro e wd ⟨rfl, hs, hg⟩; (try simp only [List.set] at hs); clear c0 c1 HS HG; obtain ⟨c0, c1⟩ := HF.out _ hg.out; have HS := hs; have HG := hg; clear hs hg) | ((with_reducible show Calls Try.prog 63 #[_, .string ⟨#[77]⟩, _] _ _); refine (sayA HS HG ⟨#[77]⟩ at4_M (by decide) rfl _).mono ?_; rintro e wd ⟨rfl, hs, hg⟩; (try simp only [List.set] at hs); clear c0 c1 HS HG; obtain ⟨c0, c1⟩ := HF.out _ hg.out; have HS := hs; have HG := hg; clear hs hg))) | fail)
      all_goals (go_wp2; go_end0; exact ⟨rfl, HS, ⟨World.grownBy.trans HG0.out HG.out⟩⟩)
    | true =>
      go_enter Try.func44, Try.ntmps44
      go_wp2_with fail
      rw [← hwb, ← hbk]
      clear hwb hbk
      (have hun : undef = Value.tuple #[] := rfl; have hs := S2.drewA HS; have hg := Aside0.mk (grown_drew HG.out); clear c0 c1 HS HG; obtain ⟨c0, c1⟩ := HF.out _ hg.out; have HS := hs; have HG := hg; clear hs hg; first | go_region_held3 (fun w' => w'.cell? ⟨bk, 0, none⟩ = some (.slice A 3 c) ∧ w'.cell? ⟨bk, 1, none⟩ = some (.slice (some ⟨g, 0, none⟩) 3 cap)) (exact HF.out _ HG.out) ((first | ((with_reducible show Calls Try.prog 64 #[_, .string ⟨#[67, 76, 75]⟩] _ _); refine (isA HS HG ⟨#[67, 76, 75]⟩ at4_CLK (by decide) rfl).mono ?_; rintro e wd ⟨rfl, hs, hg⟩; clear c0 c1 HS HG; obtain ⟨c0, c1⟩ := HF.out _ hg.out; have HS := hs; have HG := hg; clear hs hg) | ((with_reducible show Calls Try.prog 64 #[_, .string ⟨#[77]⟩] _ _); refine (isA HS HG ⟨#[77]⟩ at4_M (by decide) rfl).mono ?_; rintro e wd ⟨rfl, hs, hg⟩; clear c0 c1 HS HG; obtain ⟨c0, c1⟩ := HF.out _ hg.out; have HS := hs; have HG := hg; clear hs hg) | ((with_reducible show Calls Try.prog 63 #[_, .string ⟨#[81]⟩, _] _ _); refine (sayA HS HG ⟨#[81]⟩ at4_Q (by decide) rfl _).mono ?_; rintro e wd ⟨rfl, hs, hg⟩; (try simp only [List.set] at hs); clear c0 c1 HS HG; obtain ⟨c0, c1⟩ := HF.out _ hg.out; have HS := hs; have HG := hg; clear hs hg) | ((with_reducible show Calls Try.prog 63 #[_, .string ⟨#[77]⟩, _] _ _); refine (sayA HS HG ⟨#[77]⟩ at4_M (by decide) rfl _).mono ?_; rintro e wd ⟨rfl, hs, hg⟩; (try simp only [List.set] at hs); clear c0 c1 HS HG; obtain ⟨c0, c1⟩ := HF.out _ hg.out; have HS := hs; have HG := hg; clear hs hg))) | fail)
      all_goals (try clear hun)
      all_goals go_wp2_with fail
      all_goals (have hun : undef = Value.tuple #[] := rfl; have hs := S2.drewA HS; have hg := Aside0.mk (grown_drew HG.out); clear c0 c1 HS HG; obtain ⟨c0, c1⟩ := HF.out _ hg.out; have HS := hs; have HG := hg; clear hs hg; first | go_region_held3 (fun w' => w'.cell? ⟨bk, 0, none⟩ = some (.slice A 3 c) ∧ w'.cell? ⟨bk, 1, none⟩ = some (.slice (some ⟨g, 0, none⟩) 3 cap)) (exact HF.out _ HG.out) ((first | ((with_reducible show Calls Try.prog 64 #[_, .string ⟨#[67, 76, 75]⟩] _ _); refine (isA HS HG ⟨#[67, 76, 75]⟩ at4_CLK (by decide) rfl).mono ?_; rintro e wd ⟨rfl, hs, hg⟩; clear c0 c1 HS HG; obtain ⟨c0, c1⟩ := HF.out _ hg.out; have HS := hs; have HG := hg; clear hs hg) | ((with_reducible show Calls Try.prog 64 #[_, .string ⟨#[77]⟩] _ _); refine (isA HS HG ⟨#[77]⟩ at4_M (by decide) rfl).mono ?_; rintro e wd ⟨rfl, hs, hg⟩; clear c0 c1 HS HG; obtain ⟨c0, c1⟩ := HF.out _ hg.out; have HS := hs; have HG := hg; clear hs hg) | ((with_reducible show Calls Try.prog 63 #[_, .string ⟨#[81]⟩, _] _ _); refine (sayA HS HG ⟨#[81]⟩ at4_Q (by decide) rfl _).mono ?_; rintro e wd ⟨rfl, hs, hg⟩; (try simp only [List.set] at hs); clear c0 c1 HS HG; obtain ⟨c0, c1⟩ := HF.out _ hg.out; have HS := hs; have HG := hg; clear hs hg) | ((with_reducible show Calls Try.prog 63 #[_, .string ⟨#[77]⟩, _] _ _); refine (sayA HS HG ⟨#[77]⟩ at4_M (by decide) rfl _).mono ?_; rintro e wd ⟨rfl, hs, hg⟩; (try simp only [List.set] at hs); clear c0 c1 HS HG; obtain ⟨c0, c1⟩ := HF.out _ hg.out; have HS := hs; have HG := hg; clear hs hg))) | fail)
      all_goals (go_wp2; go_end0; exact ⟨rfl, HS, ⟨World.grownBy.trans HG0.out HG.out⟩⟩)

end Go.Proofs.Ytfadafgnahhmdaa.X
