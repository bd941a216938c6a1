/- A verified symbolic executor, part K7: redress/sum.More's contract; the tables' conditions, whole; the law's call. -/
import Derived.WalkKit
import Derived.Deep.QuietTactic
import Derived.BigQuiet
import Derived.Test.YtdkcihleblbkaaaGreatDoorK6
namespace Go.Proofs.YtdkcihleblbkaaaGreatDoor.Eng
set_option linter.unusedVariables false
set_option linter.unusedSimpArgs false
set_option linter.unusedSectionVars false
open Go Go.RowKit
set_option maxRecDepth 100000

theorem wrap_u32 (z : Int) : 0 ≤ IntKind.u32.wrap z ∧ IntKind.u32.wrap z ≤ 4294967295 := by
  simp only [IntKind.wrap, IntKind.bits, IntKind.signed]
  simp
  omega
theorem wrap_u8 (z : Int) : 0 ≤ IntKind.u8.wrap z ∧ IntKind.u8.wrap z < 256 := by
  simp only [IntKind.wrap, IntKind.bits, IntKind.signed]
  simp
  omega
theorem bits_u32 (op : BinOp) (x y : Int) : 0 ≤ bits op .u32 x y ∧ bits op .u32 x y ≤ 4294967295 := wrap_u32 _
theorem bits_u8 (op : BinOp) (x y : Int) : 0 ≤ bits op .u8 x y ∧ bits op .u8 x y < 256 := wrap_u8 _

theorem more_calls
    (c : Int) (s : ByteArray) (w : World) (_h0 : 0 ≤ c) (_h1 : c ≤ 4294967295) (hs : s.size ≤ 9223372036854775807) : Calls Tryz.prog 160 #[.int .u32 c, .string s] w fun e w' => ∃ r : Int, e = .returned (.int .u32 r) ∧ 0 ≤ r ∧ r ≤ 4294967295 ∧
    w'.os = w.os ∧ w'.tape = w.tape ∧ w'.output = w.output ∧ w.heap.size ≤ w'.heap.size ∧ ∀ b, b < w.heap.size → w'.heap[b]? = w.heap[b]? := by
  go_enter Tryz.func160, Tryz.ntmps160
  go_wp2_with (go_at_call 211; refine (table_calls _).mono ?_; rintro e w1 ⟨b, cs, et, fr, rfl, hb, hcell, e1, e2, e3, e4, e5⟩)
  skip
  go_loopw [0, 12] (fun x i wr => ∃ (k : Nat) (m : Int), k ≤ s.size ∧ i = .int .i64 k ∧ x = .int .u32 m ∧ 0 ≤ m ∧ m ≤ 4294967295 ∧ wr.heap = w1.heap ∧ wr.os = w1.os ∧ wr.tape = w1.tape ∧ wr.output = w1.output) (fun _ i _ => s.size - (intOf i).toNat)
  case atStart => exact ⟨0, _, Nat.zero_le _, rfl, rfl, (bits_u32 _ _ _).1, (bits_u32 _ _ _).2, rfl, rfl, rfl, rfl⟩
  case round =>
    obtain ⟨k, m, hk, rfl, rfl, hm0, hm1, g1, g2, g3, g4⟩ := hrel
    go_wp2_with fail
    · have hlt : k < s.size := by assumption
      have hki : (k : Int) < (s.size : Int) := by omega
      have hI0 : (0 : Int) ≤ bits .xor .u8 (IntKind.u8.wrap m) (s[k].toNat : Int) := (bits_u8 _ _ _).1
      have hI1 : bits .xor .u8 (IntKind.u8.wrap m) (s[k].toNat : Int) < (256 : Int) := (bits_u8 _ _ _).2
      obtain ⟨n, hn, n0, n1⟩ := hcell (bits .xor .u8 (IntKind.u8.wrap m) (s[k].toNat : Int)).toNat (by omega)
      have hcI : wr.cell? ⟨b, (bits .xor .u8 (IntKind.u8.wrap m) (s[k].toNat : Int)).toNat, none⟩ = some (.int .u32 n) := by
        simp only [World.cell?, g1, hb]; exact hn
      go_quiet (fail)
      go_wp2
      refine ⟨⟨k + 1, _, by omega, by simp, rfl, (bits_u32 _ _ _).1, (bits_u32 _ _ _).2, g1, g2, g3, g4⟩, ?_⟩
      simp [intOf]
      omega
    · go_ret
      exact ⟨_, rfl, (bits_u32 _ _ _).1, (bits_u32 _ _ _).2, g2.trans e1, g3.trans e2, g4.trans e3, by rw [g1]; exact e4, fun j hj => by rw [g1]; exact e5 j hj⟩
theorem G_ok : TbOk Tryz.prog G where
  D := D_ok
  ext := ext_ok
  F := fun k fn h => F_ok k fn h
  drawn := mixed_ok
  menter := Tryz.call160
  more := fun c s w h0 h1 hs => more_calls c s w h0 h1 hs

end Go.Proofs.YtdkcihleblbkaaaGreatDoor.Eng
