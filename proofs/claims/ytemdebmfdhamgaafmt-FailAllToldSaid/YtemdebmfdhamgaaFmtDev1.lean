/-
  THE SMALL METHODS OF A DEVICE: their contracts.
-/
import Derived.Test.YtemdebmfdhamgaaFmtDevDef
import Derived.Test.YtemdebmfdhamgaaFmtProg
namespace Go.Proofs.YtemdebmfdhamgaaFmt
open Go.RowKit
namespace FactsDev1
theorem fa82_3 (b o : Nat) (w : World) : (Instr.fieldAt 82 (.pointer (some ⟨b, o, none⟩)) 3).run Tryf.prog w = .ok (.pointer (some ⟨b, o + 3, none⟩)) w := by kernel_rfl
theorem one4 : oneB Tryf.prog 4 = true := by kernel_rfl
end FactsDev1
section
variable (W : World) (B : Nat)

theorem dev_Down (p bn bw bl n : Nat) (s : DevS) : Spec Tryf.prog W B 33 [.pointer (some ⟨p, 0, none⟩)] (devC p bn bw bl n s) (fun v post => v = .bool s.down ∧ post = devC p bn bw bl n s) := by
  refine Spec.enter ([[cr p 82 (devHead bn bw bl n s)], [cr bn 85 (secV s.now)], [cr bw 85 (secV s.was)], [cr bl 4 (s.loose.map .bool)]]) Tryf.func33 rfl Tryf.ntmps33 rfl (by first | rfl | simp [devC]) (fun w0 => ?_)
  refine CW.seq ?_
  refine CW.region ?_
  refine LW.assign rfl rfl ?_
  refine LW.nil ?_
  refine NW.then_ ?_
  refine CW.seq ?_
  refine CW.region ?_
  refine LW.move rfl rfl ?_
  refine LW.ptrNil _ rfl Tryf.underlying39 rfl rfl ?_
  refine LW.move rfl rfl ?_
  refine LW.on 5 rfl rfl ?_
  refine LW.move rfl rfl ?_
  refine LW.on 5 rfl rfl ?_
  refine LW.nilPtr rfl rfl ?_
  refine LW.on 5 rfl rfl ?_
  refine LW.fieldAddr _ rfl (fun _ => FactsDev1.fa82_3 _ _ _) rfl ?_
  refine LW.on 5 rfl rfl ?_
  refine LW.load rfl (by repeat (first | exact Take.head _ _ | apply Take.tail)) rfl FactsDev1.one4 rfl ?_
  refine LW.pickF rfl rfl rfl ?_
  refine LW.assign rfl rfl ?_
  refine LW.nil ?_
  refine NW.then_ ?_
  refine CW.ret ?_
  refine NW.ret1 rfl rfl ⟨_, ⟨rfl, rfl⟩, ?_⟩
  exact Sub.four (by repeat (first | exact Take.head _ _ | apply Take.tail)) (by repeat (first | exact Take.head _ _ | apply Take.tail)) (by repeat (first | exact Take.head _ _ | apply Take.tail)) (by repeat (first | exact Take.head _ _ | apply Take.tail))
end
end Go.Proofs.YtemdebmfdhamgaaFmt
