/-
  A DEVICE, whatever is asked of it: the contracts joined; a contract's frame.
-/
import Derived.Test.YtpnhonhjheahhaaDoorDev3
namespace Go.Proofs.YtpnhonhjheahhaaDoor
open Go.RowKit
namespace FactsDev4
theorem fname55 : (Tryd.f55.name == "runtime.NumGoroutine") = false := by kernel_rfl
end FactsDev4
/-- Rows that a contract does not speak of stay as they are. -/
theorem Spec.frame {P : Program} {W : World} {B : Nat} {f : FuncId} {args : List Value} {pre : List Row} {R : Value → List Row → Prop} (h : Spec P W B f args pre R) (src : List Row) : Spec P W B f args (src ++ pre) (fun v post => ∃ q, R v q ∧ post = src ++ q) := by
  intro w ho hp
  have s : St ⟨W, B, w, (src ++ pre).map (·.b)⟩ [src, pre] w := ⟨ho, by simpa using Ext.refl hp⟩
  have tk : Take pre [src, pre] [src] := Take.tail src (Take.head pre [])
  refine (h w ho (hp.sub (Sub.one (h := [src, pre]) tk |>.trans (by simpa using Sub.refl _)))).mono ?_
  rintro e w' ⟨v, post, rfl, hR, hx⟩
  refine ⟨v, src ++ post, rfl, ⟨post, hR, rfl⟩, ?_⟩
  exact (s.called tk hx).ext.sub (Sub.of_perm (by simpa using List.perm_append_comm))
section
variable (W : World) (B : Nat)
theorem dev_NewNo' (n : Int) (h : n < 64 ∨ 4096 < n) : Spec Tryd.prog W B 23 [.int .i64 n] [] (fun v post => v = .pointer none ∧ post = []) := by
  by_cases h0 : n < 64
  ·
    refine Spec.enter ([]) Tryd.func23 rfl Tryd.ntmps23 rfl (by first | rfl | simp) (fun w0 => ?_)
    refine CW.seq ?_
    refine CW.region ?_
    refine LW.assign rfl rfl ?_
    refine LW.nil ?_
    refine NW.then_ ?_
    refine CW.seq ?_
    refine CW.seq ?_
    refine CW.region ?_
    refine LW.move rfl rfl ?_
    refine LW.lss true rfl rfl (decide_eq_true (by omega)) rfl ?_
    refine LW.move rfl rfl ?_
    refine LW.off 5 rfl rfl rfl rfl ?_
    refine LW.off 5 rfl rfl rfl rfl ?_
    refine LW.pickT rfl rfl rfl ?_
    refine LW.nil ?_
    refine NW.then_ ?_
    refine CW.cond_true rfl ?_
    refine CW.seq ?_
    refine CW.region ?_
    refine LW.assign rfl rfl ?_
    refine LW.nil ?_
    refine NW.then_ ?_
    refine CW.ret ?_
    refine NW.then_ret ?_
    refine NW.ret1 rfl rfl ⟨_, ⟨rfl, rfl⟩, ?_⟩
    first | exact Sub.nil _ | exact Sub.one (by repeat (first | exact Take.head _ _ | apply Take.tail)) | exact Sub.take (by repeat (first | exact Take.head _ _ | apply Take.tail)) (Sub.one (by repeat (first | exact Take.head _ _ | apply Take.tail))) | exact Sub.take (by repeat (first | exact Take.head _ _ | apply Take.tail)) (Sub.take (by repeat (first | exact Take.head _ _ | apply Take.tail)) (Sub.one (by repeat (first | exact Take.head _ _ | apply Take.tail))))
  ·
    refine Spec.enter ([]) Tryd.func23 rfl Tryd.ntmps23 rfl (by first | rfl | simp) (fun w0 => ?_)
    refine CW.seq ?_
    refine CW.region ?_
    refine LW.assign rfl rfl ?_
    refine LW.nil ?_
    refine NW.then_ ?_
    refine CW.seq ?_
    refine CW.seq ?_
    refine CW.region ?_
    refine LW.move rfl rfl ?_
    refine LW.lss false rfl rfl (decide_eq_false (by omega)) rfl ?_
    refine LW.move rfl rfl ?_
    refine LW.on 5 rfl rfl ?_
    refine LW.move rfl rfl ?_
    refine LW.on 5 rfl rfl ?_
    refine LW.gtr true rfl rfl (decide_eq_true (by omega)) rfl ?_
    refine LW.pickF rfl rfl rfl ?_
    refine LW.nil ?_
    refine NW.then_ ?_
    refine CW.cond_true rfl ?_
    refine CW.seq ?_
    refine CW.region ?_
    refine LW.assign rfl rfl ?_
    refine LW.nil ?_
    refine NW.then_ ?_
    refine CW.ret ?_
    refine NW.then_ret ?_
    refine NW.ret1 rfl rfl ⟨_, ⟨rfl, rfl⟩, ?_⟩
    first | exact Sub.nil _ | exact Sub.one (by repeat (first | exact Take.head _ _ | apply Take.tail)) | exact Sub.take (by repeat (first | exact Take.head _ _ | apply Take.tail)) (Sub.one (by repeat (first | exact Take.head _ _ | apply Take.tail))) | exact Sub.take (by repeat (first | exact Take.head _ _ | apply Take.tail)) (Sub.take (by repeat (first | exact Take.head _ _ | apply Take.tail)) (Sub.one (by repeat (first | exact Take.head _ _ | apply Take.tail))))

theorem dev_Read_no (p bn bw bl n : Nat) (s : DevS) (i : Int) (hi : isB n i = false) : Spec Tryd.prog W B 40 [.pointer (some ⟨p, 0, none⟩), .int .i64 i] (devC p bn bw bl n s)
    (fun v post => v = .tuple #[.slice none 0 0, .int .i64 2] ∧ post = devC p bn bw bl n s) := by
  refine Spec.enter ([[cr p 84 (devHead bn bw bl n s)], [cr bn 92 (secV s.now)], [cr bw 92 (secV s.was)], [cr bl 4 (s.loose.map .bool)]]) Tryd.func40 rfl Tryd.ntmps40 rfl (by first | rfl | simp [devC]) (fun w0 => ?_)
  refine CW.seq ?_
  refine CW.region ?_
  refine LW.assign rfl rfl ?_
  refine LW.assign rfl rfl ?_
  refine LW.nil ?_
  refine NW.then_ ?_
  refine CW.seq ?_
  refine CW.block ?_
  refine CW.seq ?_
  refine CW.region ?_
  refine LW.move rfl rfl ?_
  refine LW.ptrNil _ rfl Tryd.underlying27 rfl rfl ?_
  refine LW.assign rfl rfl ?_
  refine LW.nil ?_
  refine NW.then_ ?_
  refine CW.cond_false rfl ?_
  refine CW.seq ?_
  refine CW.region ?_
  refine LW.move rfl rfl ?_
  refine LW.move rfl rfl ?_
  refine LW.call (dev_is _ _ p bn bw bl n s i) Tryd.func55 rfl FactsDev4.fname55 ⟨rfl, rfl, trivial⟩ ((Take.four (by repeat (first | exact Take.head _ _ | apply Take.tail)) (by repeat (first | exact Take.head _ _ | apply Take.tail)) (by repeat (first | exact Take.head _ _ | apply Take.tail)) (by repeat (first | exact Take.head _ _ | apply Take.tail)))) rfl ?_
  rintro _ _ ⟨rfl, rfl⟩; rw [hi]; refine LW.open4 ?_
  refine LW.not (true) rfl (rfl) rfl ?_
  refine LW.assign rfl rfl ?_
  refine LW.nil ?_
  refine NW.then_ ?_
  refine CW.cond_true rfl ?_
  refine CW.seq ?_
  refine CW.region ?_
  refine LW.assign rfl rfl ?_
  refine LW.assign rfl rfl ?_
  refine LW.nil ?_
  refine NW.then_ ?_
  refine CW.ret ?_
  refine NW.block_ret ?_
  refine NW.then_ret ?_
  refine NW.ret2 rfl rfl rfl ⟨_, ⟨rfl, rfl⟩, ?_⟩
  exact Sub.four (by repeat (first | exact Take.head _ _ | apply Take.tail)) (by repeat (first | exact Take.head _ _ | apply Take.tail)) (by repeat (first | exact Take.head _ _ | apply Take.tail)) (by repeat (first | exact Take.head _ _ | apply Take.tail))

theorem dev_WriteG (p bn bw bl n : Nat) (s : DevS) (hs : s.Ok n) (i : Int) (src : List Row) (A : Option Addr) (cp : Nat) (b : List UInt8) (hsrc : Src W B src A (b.map u8v)) :
    Spec Tryd.prog W B 39 [.pointer (some ⟨p, 0, none⟩), .int .i64 i, .slice A b.length cp] (src ++ devC p bn bw bl n s) (fun v post => v = .int .i64 (s.err n i b.length) ∧ post = src ++ devC p bn bw bl n (s.write n i b)) := by
  by_cases he : s.err n i b.length = 0
  · obtain ⟨hd, h0, h1, hl⟩ := DevS.err_zero he
    have hw : s.write n i b = (s.put i.toNat b).burn := by rw [DevS.write, if_pos he]
    obtain ⟨k, rfl⟩ : ∃ k : Nat, i = (k : Int) := ⟨i.toNat, by omega⟩
    rw [he, hw, hl]
    exact dev_Write_ok W B p bn bw bl n s hs k (by omega) hd src A cp b hl hsrc
  · have hw : s.write n i b = s := by rw [DevS.write, if_neg he]
    rw [hw]
    refine ((dev_Write_no W B p bn bw bl n s i A b.length cp he).frame src).mono ?_
    rintro v post ⟨q, ⟨rfl, rfl⟩, rfl⟩
    exact ⟨rfl, rfl⟩
end
end Go.Proofs.YtpnhonhjheahhaaDoor
