/-
  THE STOP fmt.errorf OF ONE OPERAND UNDER '%w' THAT IS AN ERROR OF THE PROGRAM's OWN: it runs the operand's Error() and makes a new *fmt.wrapError around it. Which text is made stays open.
-/
import Derived.Test.YtemdebmfdhamgaaFmtFStr
import Derived.Test.YtemdebmfdhamgaaFmtErrF
namespace Go.Proofs.YtemdebmfdhamgaaFmt
open Go.RowKit Go.Extern Go.Extern.Stop Go.Stop
theorem fmtCall (args : Array Value) (w : World) : (callFunc 39 args).run Tryf.prog w = (FmtCalls.errorf #[9, 93] #[26] args).run Tryf.prog w := run_callFunc_next Tryf.func39 (by kernel_rfl) (by kernel_rfl) (by kernel_rfl) args w
theorem fmtGuard (name : String) (w : World) : (FmtStop.guard name).run Tryf.prog w = .ok () w := by kernel_rfl
theorem nextTurns : Extern.next FmtCalls.turnsRow = some (FmtCalls.begun #[] #[]) := by kernel_rfl
theorem nextReturned : Extern.next FmtCalls.returnedRow = some (FmtCalls.returned #[] #[]) := by kernel_rfl
def otherF : List UInt8 := [111, 116, 104, 101, 114, 58, 32, 37, 119]
theorem fmtPrinted (w : World) : (FmtDoors.printed ⟨#[111, 116, 104, 101, 114, 58, 32, 37, 119]⟩ 1).run Tryf.prog w = .ok [(0, 119, false)] w := by kernel_rfl
theorem actA (name : String) (x : Value) (w : World) : (FmtCalls.act name true 119 false (.iface 56 x)).run Tryf.prog w = .ok (.call true) w := by kernel_rfl
theorem actE (name : String) (x : Value) (w : World) : (FmtCalls.act name true 119 false (.iface 24 x)).run Tryf.prog w = .ok (.call true) w := by kernel_rfl
theorem isErrA (w : World) : (FmtDoors.textMethod 56 "Error").run Tryf.prog w = .ok true w := by kernel_rfl
theorem isErrE (w : World) : (FmtDoors.textMethod 24 "Error").run Tryf.prog w = .ok true w := by kernel_rfl
theorem invErrA (x : Value) (w : World) : (invoke (.fn (.method "Error") #[]) #[.iface 56 x]).run Tryf.prog w = .ok (.enter 60 #[x]) w := by kernel_rfl
theorem invErrE (x : Value) (w : World) : (invoke (.fn (.method "Error") #[]) #[.iface 24 x]).run Tryf.prog w = .ok (.enter 12 #[x]) w := by kernel_rfl
theorem strA (w : World) : (typeStr 56).run Tryf.prog w = .ok "*fail.at" w := by kernel_rfl
theorem strE (w : World) : (typeStr 24).run Tryf.prog w = .ok "api.Errno" w := by kernel_rfl
theorem ptrW (w : World) : (FmtStop.ptrTo "fmt.wrapError").run Tryf.prog w = .ok 94 w := by kernel_rfl
theorem elemW (w : World) : (elemOf 94).run Tryf.prog w = .ok 129 w := by kernel_rfl
/-- What the stop asks of the operand's type. -/
structure Says (t : Nat) (g : Nat) : Prop where
  act : ∀ name x w, (FmtCalls.act name true 119 false (.iface t x)).run Tryf.prog w = .ok (.call true) w
  isErr : ∀ w, (FmtDoors.textMethod t "Error").run Tryf.prog w = .ok true w
  inv : ∀ x w, (invoke (.fn (.method "Error") #[]) #[.iface t x]).run Tryf.prog w = .ok (.enter g #[x]) w
  str : ∃ s, ∀ w, (typeStr t).run Tryf.prog w = .ok s w
  und : ∃ d, Tryf.prog.underlying t = some d
theorem saysA : Says 56 60 := ⟨actA, isErrA, invErrA, ⟨_, strA⟩, ⟨_, Tryf.underlying56⟩⟩
theorem saysE : Says 24 12 := ⟨actE, isErrE, invErrE, ⟨_, strE⟩, ⟨_, Tryf.underlying24⟩⟩
theorem turns_call {t g : Nat} (hs : Says t g) (a : Value) (f : ByteArray) (x : Value) (w : World) (ha : (FmtDoors.operand a 0).run Tryf.prog w = .ok (.iface t x) w) :
    ∃ ty, (FmtCalls.turns 3 2 a f [] [(0, 119, false)]).run Tryf.prog w = .ok (.callThen { target := .fn (.method "Error") #[], args := #[.iface t x] } FmtCalls.returnedRow (FmtCalls.save 3 2 a f [ty] []) false) w := by
  obtain ⟨s, hstr⟩ := hs.str
  obtain ⟨d, hd⟩ := hs.und
  simp [FmtCalls.turns, ha, hs.act, run_underlying hd, hstr]
  exact ⟨_, rfl⟩
theorem turns_end {t g : Nat} (hs : Says t g) (a : Value) (f : ByteArray) (acc : List (List UInt8)) (x : Value) (w : World) (ha : (FmtDoors.operand a 0).run Tryf.prog w.drew = .ok (.iface t x) w.drew) :
    ∃ m : List UInt8, (FmtCalls.turns 3 2 a f acc []).run Tryf.prog w = .ok (.value (.iface 94 (.pointer (some ⟨w.heap.size, 0, none⟩)))) (w.drew.alloc (.cells #[strV m, .iface t x] 129)) := by
  simp [FmtCalls.turns, FmtCalls.finish, FmtCalls.frontName, ha, hs.isErr, ptrW, elemW, Question.forced, FmtStop.str_eq]
  generalize FmtStop.textOf _ = tx
  refine ⟨tx.data.toList, ?_⟩
  simp [newVar, newRow, strV]
  rfl
section
variable (W : World) (B : Nat)
theorem fmt_errorf {t g : Nat} (hs : Says t g) (x : Value) (b0 cp : Nat) (rows : List Row) (spec : Spec Tryf.prog W B g [x] rows (fun v post => (∃ s, v = strV s) ∧ post = rows)) :
    RSpec Tryf.prog W B 39 [strV otherF, .slice (some ⟨b0, 0, none⟩) 1 cp] ([cr b0 20 [.iface t x]] ++ rows)
      (fun v post => ∃ q m, v = .iface 94 (.pointer (some ⟨q, 0, none⟩)) ∧ post = [cr q 129 [strV m, .iface t x]] ++ rows) := by
  intro w ho hp
  have s0 : St ⟨W, B, w, ([cr b0 20 [.iface t x]] ++ rows).map (·.b)⟩ [[cr b0 20 [.iface t x]], rows] w := ⟨ho, by simp only [List.flatten_cons, List.flatten_nil, List.append_nil]; exact Ext.refl hp⟩
  have hop : ∀ (w' : World), w'.cell? ⟨b0, 0, none⟩ = some (.iface t x) → (FmtDoors.operand (.slice (some ⟨b0, 0, none⟩) 1 cp) 0).run Tryf.prog w' = .ok (.iface t x) w' := fun w' hc => by
    simp [FmtDoors.operand, run_load, Addr.add, hc]
  refine ⟨FmtCalls.turnsRow, FmtCalls.save 3 2 (.slice (some ⟨b0, 0, none⟩) 1 cp) ⟨#[111, 116, 104, 101, 114, 58, 32, 37, 119]⟩ [] [(0, 119, false)], ?_, ?_⟩
  · rw [fmtCall]
    show (FmtCalls.errorf _ _ #[.string ⟨#[111, 116, 104, 101, 114, 58, 32, 37, 119]⟩, .slice (some ⟨b0, 0, none⟩) 1 cp]).run Tryf.prog w = _
    rw [FmtCalls.errorf_lit]
    simp [fmtGuard, FmtDoors.count, fmtPrinted]
  · obtain ⟨ty, hty⟩ := turns_call hs (.slice (some ⟨b0, 0, none⟩) 1 cp) ⟨#[111, 116, 104, 101, 114, 58, 32, 37, 119]⟩ x w (hop w (s0.cell (by repeat (first | exact Take.head _ _ | apply Take.tail)) rfl))
    refine rows_call nextTurns ((FmtCalls.run_begun_save w _ _ 3 2 _ _ [] _).trans hty) (hs.inv x w) ?_
    refine (spec w s0.old (s0.ext.rows.sub ⟨[cr b0 20 [.iface t x]], by simp only [List.flatten_cons, List.flatten_nil, List.append_nil]; exact List.perm_append_comm⟩)).mono ?_
    rintro e w3 ⟨v, post, rfl, ⟨⟨m, rfl⟩, rfl⟩, hx⟩
    have s3 := s0.called (pre := post) (h' := [[cr b0 20 [.iface t x]]]) (by repeat (first | exact Take.head _ _ | apply Take.tail)) hx
    obtain ⟨m2, hm2⟩ := turns_end hs (.slice (some ⟨b0, 0, none⟩) 1 cp) ⟨#[111, 116, 104, 101, 114, 58, 32, 37, 119]⟩ ([ty] ++ [m]) x w3 (hop _ (s3.drew.cell (by repeat (first | exact Take.head _ _ | apply Take.tail)) rfl))
    refine rows_value nextReturned (by
      show (FmtCalls.returned #[] #[] ((FmtCalls.save 3 2 _ _ [ty] []).push (.string ⟨m.toArray⟩))).run Tryf.prog w3 = _
      rw [FmtCalls.run_returned_save]
      exact hm2) ?_
    have s4 := s3.drew.alloc (.cells #[strV m2, .iface t x] 129)
    have s5 := (s4.sub (h' := [[cr w3.drew.heap.size 129 [strV m2, .iface t x]], post]) (by repeat (first | exact Sub.heap_nil _ | exact Sub.refl _ | refine Sub.heap_cons (Take.none _) ?_ | refine Sub.heap_cons (by repeat (first | exact Take.head _ _ | apply Take.tail)) ?_))).ext
    simp only [List.flatten_cons, List.flatten_nil, List.append_nil] at s5
    exact ⟨_, ⟨w3.drew.heap.size, m2, rfl, rfl⟩, s5⟩
end
end Go.Proofs.YtemdebmfdhamgaaFmt
