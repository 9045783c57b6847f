/- The closures are functions of the program. -/
import Derived.Test.YtgeocadpdpjmjaaOutC
namespace Go.Proofs.Ytgeocadpdpjmjaa.Out
open Go.RowKit Go.Proofs.Ytgeocadpdpjmjaa.Mem
theorem ent25 : Ent 25 := fun args w => by simp [callFunc, Try.func25]; rfl
theorem ent26 : Ent 26 := fun args w => by simp [callFunc, Try.func26]; rfl
theorem ent28 : Ent 28 := fun args w => by simp [callFunc, Try.func28]; rfl
theorem ent29 : Ent 29 := fun args w => by simp [callFunc, Try.func29]; rfl
theorem ent31 : Ent 31 := fun args w => by simp [callFunc, Try.func31]; rfl
theorem ent32 : Ent 32 := fun args w => by simp [callFunc, Try.func32]; rfl
theorem ent33 : Ent 33 := fun args w => by simp [callFunc, Try.func33]; rfl
theorem ent35 : Ent 35 := fun args w => by simp [callFunc, Try.func35]; rfl
theorem ent42 : Ent 42 := fun args w => by simp [callFunc, Try.func42]; rfl
end Go.Proofs.Ytgeocadpdpjmjaa.Out
