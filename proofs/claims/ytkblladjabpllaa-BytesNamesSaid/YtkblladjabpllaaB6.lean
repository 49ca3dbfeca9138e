/- BytesNum from its arguments. -/
import Derived.Test.YtkblladjabpllaaB5
namespace Go.Proofs.Ytkblladjabpllaa
open Go.RowKit
set_option linter.unusedVariables false
theorem owns_nil (w : World) : w.ownsRow w.heap.size 5 1 (.slice none 0 0) 0 [] := ⟨rfl, .inl ⟨rfl, rfl⟩⟩

set_option maxRecDepth 100000 in
set_option maxHeartbeats 2000000 in
theorem bytesNum_arg (v0 v1 : Value) (w : World) (h0 : Arg Try.prog w 3 v0) (h1 : Arg Try.prog w 22 v1) :
    Calls Try.prog 3 #[v0, v1] w fun e w' => e = .returned (.bool true) ∧ Below w.heap.size w w' := by
  obtain ⟨n0, rfl, _⟩ := h0.int Try.underlying3
  obtain ⟨A, n, c, b, rfl, ⟨hnc, hml⟩, hb, hs⟩ := arg_bytes h1
  clear h1 h0
  by_cases hn : n ≤ 20000
  case neg =>
    have hb0 := Lib.hid hb
    have hs0 := Lib.hid hs
    unfold maxLen at hml
    clear hb hs
    go_enter Try.func3, Try.ntmps3
    go_wp2
    go_ret
    exact ⟨rfl, Below.refl _ _⟩
  obtain ⟨i0, hi0, hz0, hz1, hz2⟩ := info_parts u8_info
  have hown0 := owns_nil w
  have c8 := Lib.hid (num8_calls n0)
  have c9 := Lib.hid (refnum_calls n0)
  have c10 := Lib.hid (fun A w (hs : BS w A n b) c => read_any A n c b w hs hb (by omega))
  have c11 := Lib.hid (fun A w (hs : BS w A n b) c => refread_any A n c b w hs hb (by omega))
  have Hb := Lib.hid hb
  have hnews := hs.news
  have Hs := Lib.hid hs
  clear hs hb
  generalize hR : rd b n = R at *
  obtain ⟨r1, r2, r3⟩ := R
  dsimp only at c10 c11
  clear hR
  go_enter Try.func3, Try.ntmps3
  go_wp2_with (at_builtin; refine wpList_app rfl (.tmp 19) (.tmp 20) 22 rfl w.heap.size 5 i0 _ 1 1 Try.underlying22 hi0 hz0 hz1 hz2 rfl (by omega) none 0 0 [] rfl hown0 A n c (cellsB n b) rfl (by simp [cellsB]) hnews (cellsB_one n b) (by unfold maxLen; omega) (by omega) (Nat.le_refl _) ?_; intro A1 c1 w1 hown1 hgr1; simp only [Nat.zero_add, List.nil_append] at hown1 ⊢)
  have bel1 : Below w.heap.size w w1 := below_grown (v := .slice none 0 0) (Below.refl _ _) hgr1 hown0 (Nat.le_refl _) (Nat.le_refl _)
  have s1 := Hs.out.below bel1
  have o1 : BS w1 A1 n b := BS.of_own hown1 b fun i hi => cellsB_at hi
  have S1 := Lib.hid s1
  have O1 := Lib.hid o1
  have z1 := bel1.size
  clear hgr1 hown1 s1 o1
  go_wp2_with fail
  refine (c8.out _).mono ?_
  rintro e w2 ⟨hx, bel2⟩
  have S2 := Lib.hid (S1.out.below bel2)
  have O2 := Lib.hid (O1.out.below bel2)
  have z2 := bel2.size
  have bel02 := Lib.hid (bel1.trans (bel2.mono z1))
  clear bel1 bel2
  rcases hx with ⟨hin, rfl⟩ | ⟨hin, X, cx, rfl, hbx⟩
  · go_wp2_with fail
    refine (c9.out _).mono ?_
    rintro e w3 ⟨hy, bel3⟩
    have S3 := Lib.hid (S2.out.below bel3)
    have O3 := Lib.hid (O2.out.below bel3)
    have z3 := bel3.size
    have bel03 := Lib.hid (bel02.out.trans (bel3.mono (by omega)))
    clear bel3
    rcases hy with ⟨_, rfl⟩ | ⟨hin', _⟩
    · go_wp2_with fail
      refine (c10.out _ _ O3.out _).mono ?_
      rintro e w4 ⟨rfl, rfl⟩
      go_wp2_with fail
      refine (c11.out _ _ S3.out _).mono ?_
      rintro e w4 ⟨rfl, rfl⟩
      have k1 := conv_bytes (c := c1) O3.out
      have k2 := conv_bytes (c := c) S3.out
      have k3 : (convert 22 9 (.slice none 0 0)).run Try.prog w3 = .ok (.string ByteArray.empty) w3 := run_convert_bytes_nil w3 22 5 Try.underlying22 Try.underlying5 0 0 9 Try.underlying9
      generalize strB n b = st at *
      go_wp2
      go_ret
      exact ⟨rfl, bel03.out⟩
    · exact absurd hin' hin
  · have sx := BS.of_bytes hbx
    have SX := Lib.hid sx
    clear hbx sx
    go_wp2_with fail
    refine (c9.out _).mono ?_
    rintro e w3 ⟨hy, bel3⟩
    have S3 := Lib.hid (S2.out.below bel3)
    have O3 := Lib.hid (O2.out.below bel3)
    have X3 := Lib.hid (SX.out.below bel3)
    have z3 := bel3.size
    have bel03 := Lib.hid (bel02.out.trans (bel3.mono (by omega)))
    clear bel3
    rcases hy with ⟨hin', _⟩ | ⟨_, Y, cy, rfl, hby⟩
    · exact absurd hin hin'
    · have Y3 := Lib.hid (BS.of_bytes hby)
      clear hby
      go_wp2_with fail
      refine (c10.out _ _ O3.out _).mono ?_
      rintro e w4 ⟨rfl, rfl⟩
      go_wp2_with fail
      refine (c11.out _ _ S3.out _).mono ?_
      rintro e w4 ⟨rfl, rfl⟩
      have k1 := conv_bytes (c := c1) O3.out
      have k2 := conv_bytes (c := c) S3.out
      have k3 := conv_bytes (c := cx) X3.out
      have k4 := conv_bytes (c := cy) Y3.out
      generalize strB n b = st at *
      generalize strB (enc 6 (rank n0)).length _ = st2 at *
      generalize (enc 6 (rank n0)).length = L at *
      go_wp2
      go_ret
      exact ⟨rfl, bel03.out⟩
end Go.Proofs.Ytkblladjabpllaa
