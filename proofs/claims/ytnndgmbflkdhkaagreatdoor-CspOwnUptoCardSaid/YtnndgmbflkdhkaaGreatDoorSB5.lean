/- A Policy opened. -/
/- csp.hosted in print's form. -/
import Derived.Test.YtnndgmbflkdhkaaGreatDoorSOpen
import Derived.Test.YtnndgmbflkdhkaaGreatDoorSQbase
import Derived.Test.YtnndgmbflkdhkaaGreatDoorSHost
section
set_option linter.unusedSimpArgs false
set_option linter.unusedVariables false
namespace Go.Proofs.YtnndgmbflkdhkaaGreatDoor.Q
open Go.RowKit Go.Proofs.YtnndgmbflkdhkaaGreatDoorW.PrintWords Go.Deep Go.ChangeShapes Go.WideShapes
def mStr (s : ByteArray) : Nat := s.size + 1
def mStrs (l : List ByteArray) : Nat := (l.map mStr).sum + 1
def mDir (d : S35) : Nat := mStr d.f0 + ((d.f1.map mStr).sum + 1) + 1
def mPol (p : S25) : Nat := ((p.f0.map mDir).sum + 1) + 1 + 1
section
variable {H : Type} {enc : TypeId × Value → H} {w : World} {base : Nat} {spare : Nat → Bool} {held : Bool}
theorem opens_strs : Opens enc Tryz.prog w base spare held (Kd.slice 9 Kd.string) 33 mStrs := opens_slice Tryz.underlying33 (by kernel_rfl) (opens_string Tryz.underlying9)
theorem opens_dir : Opens enc Tryz.prog w base spare held k35 35 mDir :=
  opens_iso (fun x : S35 => (x.f0, x.f1)) (fun p => ⟨p.1, p.2⟩) (fun _ => rfl) (opens_pair Tryz.underlying35 rfl (by kernel_rfl) (by kernel_rfl) (opens_string Tryz.underlying9) opens_strs)
theorem opens_dirs : Opens enc Tryz.prog w base spare held (Kd.slice 35 k35) 23 (fun l => (l.map mDir).sum + 1) := opens_slice Tryz.underlying23 (by kernel_rfl) opens_dir
theorem opens_pol : Opens enc Tryz.prog w base spare held k25 25 mPol :=
  opens_iso (fun x : S25 => (x.f0, x.f1)) (fun p => ⟨p.1, p.2⟩) (fun _ => rfl) (opens_pair Tryz.underlying25 rfl (by kernel_rfl) (by kernel_rfl) opens_dirs (opens_bool Tryz.underlying4))
end
end Go.Proofs.YtnndgmbflkdhkaaGreatDoor.Q
end
section
set_option linter.unusedSimpArgs false
set_option linter.unusedVariables false
namespace Go.Proofs.YtnndgmbflkdhkaaGreatDoor.Q
open Go.RowKit Go.Proofs.YtnndgmbflkdhkaaGreatDoorW.PrintWords Go.Proofs.YtnndgmbflkdhkaaGreatDoorW.PrintLast Go.Proofs.YtnndgmbflkdhkaaGreatDoorW.PrintMore Go.Proofs.YtnndgmbflkdhkaaGreatDoor.P1
def csp_hosted.f (a0 : ByteArray) : Option (Int × ByteArray × ByteArray × Bool × Int × Bool × Bool × ByteArray × Bool) :=
  if a0.size ≤ 1048576 then some (5, B (hostF a0.data.toList).1, B (hostF a0.data.toList).2.1, (hostF a0.data.toList).2.2.1, (hostF a0.data.toList).2.2.2.1, (hostF a0.data.toList).2.2.2.2.1, (hostF a0.data.toList).2.2.2.2.2.1, B (hostF a0.data.toList).2.2.2.2.2.2.1, (hostF a0.data.toList).2.2.2.2.2.2.2) else none
theorem csp_hosted.calls (a0 : ByteArray) (r1 : Int) (r2 : ByteArray) (r3 : ByteArray) (r4 : Bool) (r5 : Int) (r6 : Bool) (r7 : Bool) (r8 : ByteArray) (r9 : Bool) (w : World) (hT : UTabs w) (h : csp_hosted.f a0 = some (r1, r2, r3, r4, r5, r6, r7, r8, r9)) :
    Calls Tryz.prog 42 #[.string a0] w fun e w' => e = .returned (.tuple #[.agg #[.int .u8 r1, .string r2, .string r3, .bool r4, .int .i64 r5, .bool r6, .bool r7, .string r8], .bool r9]) ∧ Below w.heap.size w w' := by
  unfold csp_hosted.f at h
  split at h
  · rename_i hs
    have h2 := Option.some.inj h
    simp only [Prod.mk.injEq] at h2
    obtain ⟨rfl, rfl, rfl, rfl, rfl, rfl, rfl, rfl, rfl⟩ := h2
    have := hosted_any a0.data.toList (by rw [Array.length_toList]; exact hs) w hT
    exact this
  · cases h
end Go.Proofs.YtnndgmbflkdhkaaGreatDoor.Q
end
