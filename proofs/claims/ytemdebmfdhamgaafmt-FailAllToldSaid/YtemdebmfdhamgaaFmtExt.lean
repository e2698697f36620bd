/-
  CALLS of what has no body (the model's own entries), of methods through an interface value; type assertions; interface values compared. No program is named here.
-/
import Derived.Test.YtemdebmfdhamgaaFmtStr
import Derived.Stop.Asserts
import Derived.LaidEql
namespace Go.Proofs.YtemdebmfdhamgaaFmt
open Go.RowKit

/-- The function has no body: it is this entry. -/
def XF (P : Program) (f : FuncId) (g : Array Value → Sem Value) : Prop := ∀ args w, (callFunc f args).run P w = ((g args).run P w).andThen fun v w' => .ok (.value v) w'

section
variable {P : Program} {n : Nat} {c : Ctx} {Q : Exit → Act → World → Prop} {e : Env} {h : Heap} {ops : Array Oper} {rest : List Oper} {d ty : Nat} {pos : String} {af : Array Edge}

theorem evs_arr {a : Act} {xs : List Operand} {args : List Value} (hf : Fr n e a) (hargs : e.Evs xs args) : xs.toArray.map a.eval = args.toArray := by
  apply Array.ext'
  simpa using hargs.map hf

theorem run_call_ext {f : Nat} {g : Array Value → Sem Value} {xs : List Operand} {ats : Array TypeId} {args : List Value} {a : Act} {w w' : World} {v : Value} (hx : XF P f g) (hf : Fr n e a) (hargs : e.Evs xs args) (hr : (g args.toArray).run P w = .ok v w') :
    (execOp a.eval ⟨some d, .call { callee := .value (.func f), args := xs.toArray, argTypes := ats }, ty, pos, af, none⟩).run P w = .ok (.value v) w' := by
  have he : a.eval (.func f) = .func (.func f) #[] #[] := rfl
  have hm := evs_arr hf hargs
  simp only [execOp, resolve, he, Deferred.ofValue, hm, Sem.run_bind, Sem.run_pure, Result.andThen_ok, invoke, Array.append_empty, hx _ w]
  have h0 : #[] ++ args.toArray = args.toArray := by simp
  rw [h0, hr]
  rfl

theorem LW.ext {f : Nat} {g : Array Value → Sem Value} {xs : List Operand} {ats : Array TypeId} {args : List Value} (v : Value) (hx : XF P f g) (hargs : e.Evs xs args) (hr : ∀ w, St c h w → (g args.toArray).run P w = .ok v w) (hd : Nat.blt d n = true)
    (k : LW P n c ops Q rest ((d, v) :: e) h) : LW P n c ops Q (⟨some d, .call { callee := .value (.func f), args := xs.toArray, argTypes := ats }, ty, pos, af, none⟩ :: rest) e h :=
  LW.val v hd (fun _ w hf s => run_call_ext hx hf hargs (hr w s)) k
theorem LW.extAlloc {f : Nat} {g : Array Value → Sem Value} {xs : List Operand} {ats : Array TypeId} {args : List Value} (v : Nat → Value) (t : TypeId) (l : List Value) (hx : XF P f g) (hargs : e.Evs xs args)
    (hr : ∀ w, St c h w → (g args.toArray).run P w = .ok (v w.heap.size) (w.alloc (.cells l.toArray t))) (hd : Nat.blt d n = true)
    (k : ∀ b, LW P n c ops Q rest ((d, v b) :: e) ([cr b t l] :: h)) : LW P n c ops Q (⟨some d, .call { callee := .value (.func f), args := xs.toArray, argTypes := ats }, ty, pos, af, none⟩ :: rest) e h :=
  LW.act hd fun _ w hf s => ⟨v w.heap.size, _, _, run_call_ext hx hf hargs (hr w s), s.alloc _, k _⟩
theorem LW.extSet {f : Nat} {g : Array Value → Sem Value} {xs : List Operand} {ats : Array TypeId} {args : List Value} (v : Value) (h1 : Heap) (hx : XF P f g) (hargs : e.Evs xs args)
    (hr : ∀ w, St c h w → ∃ w', (g args.toArray).run P w = .ok v w' ∧ St c h1 w') (hd : Nat.blt d n = true)
    (k : LW P n c ops Q rest ((d, v) :: e) h1) : LW P n c ops Q (⟨some d, .call { callee := .value (.func f), args := xs.toArray, argTypes := ats }, ty, pos, af, none⟩ :: rest) e h :=
  LW.act hd fun _ w hf s => by
    obtain ⟨w', hr', hs'⟩ := hr w s
    exact ⟨v, h1, w', run_call_ext hx hf hargs hr', hs', k⟩

/-- A method of the dynamic type t is called: which function, on which receiver. -/
def Meth (P : Program) (t : TypeId) (u : Value) (name : String) (f : FuncId) (r : Value) : Prop := ∀ w, (Go.method (P.types.size + Made.depth) t u name).run P w = .ok (f, r) w

theorem run_invoke_fn {name : String} {f : Nat} {x : Operand} {xs : List Operand} {ats : Array TypeId} {args : List Value} {a : Act} {w : World} {t : TypeId} {u r : Value} (hx : e.ev x = some (.iface t u)) (hm : Meth P t u name f r) (hf : Fr n e a) (hargs : e.Evs xs args) :
    (execOp a.eval ⟨some d, .call { callee := .invoke x name, args := xs.toArray, argTypes := ats }, ty, pos, af, none⟩).run P w = (callFunc f (r :: args).toArray).run P w := by
  have hv := hf.eval hx
  have he := evs_arr hf hargs
  have h2 : (#[Value.iface t u] ++ args.toArray).extract 1 (#[Value.iface t u] ++ args.toArray).size = args.toArray := by
    apply Array.ext'
    simp
  simp only [execOp, resolve, he, Sem.run_bind, Sem.run_pure, Result.andThen_ok, invoke, hv, callMethod, h2]
  simp [hm w]

theorem LW.invExt {name : String} {f : Nat} {g : Array Value → Sem Value} {x : Operand} {xs : List Operand} {ats : Array TypeId} {args : List Value} {t : TypeId} {u r : Value} (v : Value) (hx : e.ev x = some (.iface t u)) (hm : Meth P t u name f r) (hg : XF P f g) (hargs : e.Evs xs args)
    (hr : ∀ w, St c h w → (g (r :: args).toArray).run P w = .ok v w) (hd : Nat.blt d n = true) (k : LW P n c ops Q rest ((d, v) :: e) h) :
    LW P n c ops Q (⟨some d, .call { callee := .invoke x name, args := xs.toArray, argTypes := ats }, ty, pos, af, none⟩ :: rest) e h :=
  LW.val v hd (fun a w hf s => by rw [run_invoke_fn hx hm hf hargs, hg _ w, hr w s]; rfl) k

theorem LW.invCall {name : String} {f : Nat} {fn : Func} {code : Code} {x : Operand} {xs : List Operand} {ats : Array TypeId} {args : List Value} {pre : List Row} {R : Value → List Row → Prop} {h' : Heap} {t : TypeId} {u r : Value} (hx : e.ev x = some (.iface t u)) (hm : Meth P t u name f r) (spec : Spec P c.W c.B f (r :: args) pre R)
    (hfn : P.funcs[f]? = some fn) (hbody : fn.body = some code) (hname : (fn.name == "runtime.NumGoroutine") = false) (hargs : e.Evs xs args) (tk : Take pre h h') (hd : Nat.blt d n = true)
    (k : ∀ v post, R v post → LW P n c ops Q rest ((d, v) :: e) (post :: h')) :
    LW P n c ops Q (⟨some d, .call { callee := .invoke x name, args := xs.toArray, argTypes := ats }, ty, pos, af, none⟩ :: rest) e h := fun a w hf s =>
  wpList_plain rfl fun K hK => by
    have hrun : (callFunc f (r :: args).toArray).run P w = .ok (.enter f (r :: args).toArray) w := by
      have hn : ¬ fn.name = "runtime.NumGoroutine" := by simpa using hname
      simp [callFunc, hfn, hbody, hn]
    unfold Oper.wp
    rw [run_invoke_fn hx hm hf hargs, hrun, Oper.upon_enter]
    refine (spec w s.old (s.ext.rows.sub ⟨h'.flatten, tk⟩)).mono ?_
    rintro _ w' ⟨v, post, rfl, hR, hx⟩
    exact hK _ _ (k v post hR _ _ (hf.put d v hd) (s.called tk hx))

/-- 'x, ok := e.(I)' and 'e.(T)': what it comes to is a closed fact. -/
theorem LW.tassert {x : Operand} {xT t : Nat} {ok : Bool} {u v : Value} (hx : e.ev x = some u) (hr : ∀ w, (Instr.typeAssert u xT t ok).run P w = .ok v w) (hd : Nat.blt d n = true) (k : LW P n c ops Q rest ((d, v) :: e) h) :
    LW P n c ops Q (⟨some d, .typeAssert x xT t ok, ty, pos, af, none⟩ :: rest) e h :=
  LW.val v hd (fun a w hf _ => by simp [execOp, hf.eval hx, hr]) k

theorem run_typeAssert_same {t xT : TypeId} {u : Value} {td : TypeDesc} (hu : P.underlying t = some td) (hni : (match td with | .interface _ => true | _ => false) = false) (w : World) : (Instr.typeAssert (.iface t u) xT t true).run P w = .ok (.tuple #[u, .bool true]) w := by
  cases td <;> first | (simp at hni; done) | simp [Instr.typeAssert, run_underlying hu]
theorem run_typeAssert_other {t t' xT : TypeId} {u z : Value} {td : TypeDesc} (hu : P.underlying t = some td) (hni : (match td with | .interface _ => true | _ => false) = false) (hne : t' ≠ t) (hz : (P.info? t).bind (·.zero) = some z) (w : World) :
    (Instr.typeAssert (.iface t' u) xT t true).run P w = .ok (.tuple #[z, .bool false]) w := by
  obtain ⟨i, hi, hz'⟩ := Option.bind_eq_some_iff.1 hz
  cases td <;> first | (simp at hni; done) | simp [Instr.typeAssert, run_underlying hu, hne, zeroValue, typeInfo, hi, hz']

/-- 'x == y' at an interface type. -/
theorem LW.ifaceEqNe {xt yt tx ty' : Nat} {x y : Operand} {vx vy : Value} {ms : Array (String × TypeId)} (hx : e.ev x = some (.iface tx vx)) (hy : e.ev y = some (.iface ty' vy)) (ht : P.underlying xt = some (.interface ms)) (hne : tx ≠ ty') (hd : Nat.blt d n = true)
    (k : LW P n c ops Q rest ((d, .bool false) :: e) h) : LW P n c ops Q (⟨some d, .binOp .eql xt x y yt, ty, pos, af, none⟩ :: rest) e h :=
  LW.val _ hd (fun a w hf _ => by simp [execOp, hf.eval hx, hf.eval hy, eqGuard_at_iface, run_eql_iface_types tx ty' vx vy ht hne, Result.andThen]) k
theorem run_eql_iface_int {ti t : TypeId} {ms : Array (String × TypeId)} {ki : IntKind} {p q : Int} (hi : P.underlying ti = some (.interface ms)) (ht : P.underlying t = some (.int ki)) (hc : (P.info? t).map (·.comparable) = some true) (w : World) :
    (binOp .eql ti (.iface t (.int ki p)) (.iface t (.int ki q))).run P w = .ok (.bool (p == q)) w := by
  obtain ⟨i, hi', hc'⟩ := Option.map_eq_some_iff.1 hc
  have h2 : ∀ d : Nat, (Op.equalIn (d + 2) ti (.iface t (.int ki p)) (.iface t (.int ki q))).run P w = .ok (p == q) w := fun d => by
    simp [Op.equalIn, run_underlying hi, typeInfo, hi', hc', run_underlying ht]
  simp only [binOp]
  simp [Op.equal, Op.maxDepth, h2 9998]
theorem LW.ifaceEqInt {xt yt t : Nat} {x y : Operand} {ki : IntKind} {p q : Int} {ms : Array (String × TypeId)} (r : Bool) (hx : e.ev x = some (.iface t (.int ki p))) (hy : e.ev y = some (.iface t (.int ki q))) (hi : P.underlying xt = some (.interface ms)) (ht : P.underlying t = some (.int ki)) (hc : (P.info? t).map (·.comparable) = some true) (hr : (p == q) = r) (hd : Nat.blt d n = true)
    (k : LW P n c ops Q rest ((d, .bool r) :: e) h) : LW P n c ops Q (⟨some d, .binOp .eql xt x y yt, ty, pos, af, none⟩ :: rest) e h :=
  LW.val _ hd (fun a w hf _ => by subst hr; simp [execOp, hf.eval hx, hf.eval hy, eqGuard_at_iface, run_eql_iface_int hi ht hc, Result.andThen]) k

/-- A load out of a row that is somewhere among what is owned. -/
theorem LW.loadIn {t : Nat} {x : Operand} {b o : Nat} {u : TypeId} {l : List Value} {v : Value} (hx : e.ev x = some (.pointer (some ⟨b, o, none⟩))) (hm : cr b u l ∈ h.flatten) (hv : l[o]? = some v) (ht : oneB P t = true)
    (hd : Nat.blt d n = true) (k : LW P n c ops Q rest ((d, v) :: e) h) : LW P n c ops Q (⟨some d, .load t x, ty, pos, af, none⟩ :: rest) e h :=
  LW.val v hd (fun a w hf s => by
    have hc : w.cell? ⟨b, o, none⟩ = some v := by
      rw [cell_of_row w b o l.toArray u (0, 0) (s.ext.rows.2 _ hm).2]
      simpa using hv
    simp [execOp, hf.eval hx, run_loadAt_one ht hc]) k
theorem Yl.loadIn {t : Nat} {x : Operand} {b o : Nat} {u : TypeId} {l : List Value} {v : Value} {hs : List Row} (hx : e.ev x = some (.pointer (some ⟨b, o, none⟩))) (hm : cr b u l ∈ hs) (hv : l[o]? = some v) (ht : oneB P t = true) :
    Yl P n (Held c hs) e ⟨some d, .load t x, ty, pos, af, none⟩ v := Yl.load hx hm hv ht
end
end Go.Proofs.YtemdebmfdhamgaaFmt
