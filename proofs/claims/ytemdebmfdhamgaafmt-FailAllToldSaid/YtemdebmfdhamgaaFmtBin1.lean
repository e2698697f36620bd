/-
  A WRITER's METHODS: their contracts.
-/
import Derived.Test.YtemdebmfdhamgaaFmtBinDef
import Derived.Test.YtemdebmfdhamgaaFmtProg
namespace Go.Proofs.YtemdebmfdhamgaaFmt
open Go.RowKit
namespace FactsBin1
theorem fa47_0 (b o : Nat) (w : World) : (Instr.fieldAt 47 (.pointer (some ⟨b, o, none⟩)) 0).run Tryf.prog w = .ok (.pointer (some ⟨b, o, none⟩)) w := by kernel_rfl
theorem fname37 : (Tryf.f37.name == "runtime.NumGoroutine") = false := by kernel_rfl
theorem info5 : (Tryf.prog.info? 5).map (fun i => (i.zero, i.size, i.bytes)) = some (some (.int .u8 0), 1, 1) := by kernel_rfl
theorem ixs89 : (Tryf.prog.info? 2).map (·.size) = some 1 := by kernel_rfl
theorem mixed : Tryf.prog.follows .mixedOrders = true := by kernel_rfl
theorem one2 : oneB Tryf.prog 2 = true := by kernel_rfl
theorem one41 : oneB Tryf.prog 41 = true := by kernel_rfl
theorem sz41 : (Tryf.prog.info? 41).map (·.size) = some 1 := by kernel_rfl
end FactsBin1
section
variable (W : World) (B : Nat)

theorem bin_size (n : Int) : Spec Tryf.prog W B 37 [.int .i64 n] [] (fun v post => v = .int .i64 (sizeZ n : Int) ∧ post = []) := by
  refine Spec.enter ([]) Tryf.func37 rfl Tryf.ntmps37 rfl (by first | rfl | simp) (fun w0 => ?_)
  refine CW.seq ?_
  refine CW.region ?_
  refine LW.assign rfl rfl ?_
  refine LW.nil ?_
  refine NW.then_ ?_
  refine CW.seq ?_
  refine CW.seq ?_
  refine CW.region ?_
  refine LW.move rfl rfl ?_
  refine LW.eql (n == 0) rfl rfl (rfl) rfl ?_
  refine LW.nil ?_
  refine NW.then_ ?_
  refine CW.cond rfl (fun hc5 => ?_) (fun hc5 => ?_)
  · have h0 : n = 0 := by simpa using hc5
    refine CW.seq ?_
    refine CW.region ?_
    refine LW.assign rfl rfl ?_
    refine LW.nil ?_
    refine NW.then_ ?_
    refine CW.ret ?_
    refine NW.then_ret ?_
    refine NW.ret1 rfl rfl ⟨_, ⟨by rw [h0]; rfl, rfl⟩, ?_⟩
    first | exact Sub.nil _ | exact Sub.one (by repeat (first | exact Take.head _ _ | apply Take.tail)) | exact Sub.take (by repeat (first | exact Take.head _ _ | apply Take.tail)) (Sub.one (by repeat (first | exact Take.head _ _ | apply Take.tail))) | exact Sub.take (by repeat (first | exact Take.head _ _ | apply Take.tail)) (Sub.take (by repeat (first | exact Take.head _ _ | apply Take.tail)) (Sub.one (by repeat (first | exact Take.head _ _ | apply Take.tail))))
  · have h0 : n ≠ 0 := by simpa using hc5
    refine CW.skip ?_
    refine NW.then_ ?_
    refine CW.seq ?_
    refine CW.region ?_
    refine LW.assign rfl rfl ?_
    refine LW.nil ?_
    refine NW.then_ ?_
    refine CW.seq ?_
    refine CW.block ?_
    refine CW.loop (fun k : Nat => [(3, .int .i64 (k : Int)), (0, .int .i64 n)]) (fun _ => []) (fun k => 1 ≤ k ∧ k ≤ 8 ∧ ∀ j, 1 ≤ j → j < k → n ≠ sx n j) (fun k => 8 - k) 1 ?st4_j ?st4_e ?st4_h ?st4_r
    case st4_j => exact ⟨Nat.le_refl _, by omega, fun j h1 h2 => by omega⟩
    case st4_e => repeat (first | exact Env.Le.nil _ | refine Env.Le.cons rfl ?_)
    case st4_h => repeat (first | exact Sub.heap_nil _ | exact Sub.refl _ | refine Sub.heap_cons (Take.none _) ?_ | refine Sub.heap_cons (by repeat (first | exact Take.head _ _ | apply Take.tail)) ?_)
    case st4_r =>
      rintro k ⟨hk1, hk8, hlt⟩
      refine CW.seq ?_
      refine CW.seq ?_
      refine CW.region ?_
      refine LW.move rfl rfl ?_
      by_cases hkk : k < 8
      · refine LW.lss true rfl rfl (decide_eq_true (by omega)) rfl ?_
        refine LW.move rfl rfl ?_
        refine LW.on 8 rfl rfl ?_
        refine LW.move rfl rfl ?_
        refine LW.on 8 rfl rfl ?_
        refine LW.move rfl rfl ?_
        refine LW.on 8 rfl rfl ?_
        refine LW.move rfl rfl ?_
        refine LW.on 8 rfl rfl ?_
        refine LW.sub ((8 - k : Int)) rfl rfl (by first | rfl | exact wr64 (by omega) (by omega) (by omega)) rfl ?_
        refine LW.on 8 rfl rfl ?_
        refine LW.mul ((8 * (8 - k) : Int)) rfl rfl (by first | rfl | exact wr64 (by omega) (by omega) (by omega)) rfl ?_
        refine LW.on 8 rfl rfl ?_
        refine LW.shl (IntKind.i64.wrap (n * 2 ^ (8 * (8 - k)))) rfl rfl (by omega) (shp n k hk8) rfl ?_
        refine LW.on 8 rfl rfl ?_
        refine LW.move rfl rfl ?_
        refine LW.on 8 rfl rfl ?_
        refine LW.sub ((8 - k : Int)) rfl rfl (by first | rfl | exact wr64 (by omega) (by omega) (by omega)) rfl ?_
        refine LW.on 8 rfl rfl ?_
        refine LW.mul ((8 * (8 - k) : Int)) rfl rfl (by first | rfl | exact wr64 (by omega) (by omega) (by omega)) rfl ?_
        refine LW.on 8 rfl rfl ?_
        refine LW.shr (sx n k) rfl rfl (by omega) (shq n k hk8) rfl ?_
        refine LW.on 8 rfl rfl ?_
        refine LW.neq (n != sx n k) rfl rfl (rfl) rfl ?_
        refine LW.pickT rfl rfl rfl ?_
        refine LW.nil ?_
        refine NW.then_ ?_
        refine CW.cond rfl (fun hc20 => ?_) (fun hc20 => ?_)
        · have hne : n ≠ sx n k := by simpa using hc20
          refine CW.skip ?_
          refine NW.then_ ?_
          refine CW.block ?_
          refine CW.region ?_
          refine LW.move rfl rfl ?_
          refine LW.add ((k + 1 : Int)) rfl rfl (by first | rfl | exact wr64 (by omega) (by omega) (by omega)) rfl ?_
          refine LW.assign rfl rfl ?_
          refine LW.nil ?_
          refine NW.block ?_
          refine NW.meet (k + 1) ?j1 ?e1 ?h1
          case j1 => exact ⟨⟨by omega, by omega, fun j h1 h2 => by
            rcases Nat.lt_or_ge j k with h | h
            · exact hlt j h1 h
            · have : j = k := by omega
              subst this; exact hne⟩, by omega⟩
          case e1 => repeat (first | exact Env.Le.nil _ | refine Env.Le.cons rfl ?_)
          case h1 => repeat (first | exact Sub.heap_nil _ | exact Sub.refl _ | refine Sub.heap_cons (Take.none _) ?_ | refine Sub.heap_cons (by repeat (first | exact Take.head _ _ | apply Take.tail)) ?_)
        · have he : n = sx n k := by simpa using hc20
          refine CW.exit ?_
          refine NW.then_exit ?_
          refine NW.then_exit ?_
          refine NW.block_exit ?_
          refine NW.then_ ?_
          refine CW.seq ?_
          refine CW.region ?_
          refine LW.move rfl rfl ?_
          refine LW.assign rfl rfl ?_
          refine LW.nil ?_
          refine NW.then_ ?_
          refine CW.ret ?_
          refine NW.ret1 rfl rfl ⟨_, ⟨by rw [sizeZ_eq h0 hk1 hk8 hlt (.inr he)], rfl⟩, ?_⟩
          first | exact Sub.nil _ | exact Sub.one (by repeat (first | exact Take.head _ _ | apply Take.tail)) | exact Sub.take (by repeat (first | exact Take.head _ _ | apply Take.tail)) (Sub.one (by repeat (first | exact Take.head _ _ | apply Take.tail))) | exact Sub.take (by repeat (first | exact Take.head _ _ | apply Take.tail)) (Sub.take (by repeat (first | exact Take.head _ _ | apply Take.tail)) (Sub.one (by repeat (first | exact Take.head _ _ | apply Take.tail))))
      · refine LW.lss false rfl rfl (decide_eq_false (by omega)) rfl ?_
        refine LW.move rfl rfl ?_
        refine LW.off 8 rfl rfl rfl rfl ?_
        refine LW.off 8 rfl rfl rfl rfl ?_
        refine LW.off 8 rfl rfl rfl rfl ?_
        refine LW.off 8 rfl rfl rfl rfl ?_
        refine LW.off 8 rfl rfl rfl rfl ?_
        refine LW.off 8 rfl rfl rfl rfl ?_
        refine LW.off 8 rfl rfl rfl rfl ?_
        refine LW.off 8 rfl rfl rfl rfl ?_
        refine LW.off 8 rfl rfl rfl rfl ?_
        refine LW.off 8 rfl rfl rfl rfl ?_
        refine LW.off 8 rfl rfl rfl rfl ?_
        refine LW.pickF rfl rfl rfl ?_
        refine LW.nil ?_
        refine NW.then_ ?_
        refine CW.cond_false rfl ?_
        refine CW.exit ?_
        refine NW.then_exit ?_
        refine NW.then_exit ?_
        refine NW.block_exit ?_
        refine NW.then_ ?_
        refine CW.seq ?_
        refine CW.region ?_
        refine LW.move rfl rfl ?_
        refine LW.assign rfl rfl ?_
        refine LW.nil ?_
        refine NW.then_ ?_
        refine CW.ret ?_
        refine NW.ret1 rfl rfl ⟨_, ⟨by rw [sizeZ_eq h0 hk1 hk8 hlt (.inl (by omega))], rfl⟩, ?_⟩
        first | exact Sub.nil _ | exact Sub.one (by repeat (first | exact Take.head _ _ | apply Take.tail)) | exact Sub.take (by repeat (first | exact Take.head _ _ | apply Take.tail)) (Sub.one (by repeat (first | exact Take.head _ _ | apply Take.tail))) | exact Sub.take (by repeat (first | exact Take.head _ _ | apply Take.tail)) (Sub.take (by repeat (first | exact Take.head _ _ | apply Take.tail)) (Sub.one (by repeat (first | exact Take.head _ _ | apply Take.tail))))

theorem bin_WInt (w : Nat) (v : Value) (bs : List UInt8) (ch : List Row) (ho : OwnB v bs ch) (ns : List Int) (hns : ∀ n ∈ ns, I64 n) (src : List Row) (A : Option Addr) (cp : Nat) (hsrc : Src W B src A (ns.map i64v)) (hb : bs.length + 9 * ns.length ≤ 1000000000) :
    Spec Tryf.prog W B 19 [.pointer (some ⟨w, 0, none⟩), .slice A ns.length cp] (src ++ ([cr w 47 [v]] ++ ch))
      (fun r post => r = .tuple #[] ∧ ∃ v' ch', OwnB v' (bs ++ encs ns) ch' ∧ post = src ++ ([cr w 47 [v']] ++ ch')) := by
  refine Spec.enter ([src, [cr w 47 [v]], ch]) Tryf.func19 rfl Tryf.ntmps19 rfl (by first | rfl | simp) (fun w0 => ?_)
  refine CW.seq ?_
  refine CW.seq ?_
  refine CW.region ?_
  refine LW.move rfl rfl ?_
  refine LW.ptrNil _ rfl Tryf.underlying88 rfl rfl ?_
  refine LW.nil ?_
  refine NW.then_ ?_
  refine CW.cond_false rfl ?_
  refine CW.skip ?_
  refine NW.then_ ?_
  refine CW.seq ?_
  refine CW.region ?_
  refine LW.move rfl rfl ?_
  refine LW.lenSlice rfl Tryf.underlying89 rfl ?_
  refine LW.move rfl rfl ?_
  refine LW.nil ?_
  refine NW.then_ ?_
  refine CW.block ?_
  refine CW.loop (fun st : Nat × Value × List Row => [(12, .int .i64 (st.1 : Int)), (11, .int .i64 (ns.length : Int)), (10, .slice A ns.length cp), (0, .pointer (some ⟨w, 0, none⟩))]) (fun st => [src, [cr w 47 [st.2.1]], st.2.2]) (fun st => st.1 ≤ ns.length ∧ OwnB st.2.1 (bs ++ encs (ns.take st.1)) st.2.2) (fun st => ns.length - st.1) (0, v, ch) ?st2_j ?st2_e ?st2_h ?st2_r
  case st2_j => exact ⟨Nat.zero_le _, by simpa [encs] using ho⟩
  case st2_e => repeat (first | exact Env.Le.nil _ | refine Env.Le.cons rfl ?_)
  case st2_h => repeat (first | exact Sub.heap_nil _ | exact Sub.refl _ | refine Sub.heap_cons (Take.none _) ?_ | refine Sub.heap_cons (by repeat (first | exact Take.head _ _ | apply Take.tail)) ?_)
  case st2_r =>
    rintro ⟨i, v1, ch1⟩ ⟨hi, ho1⟩; dsimp only at hi ho1
    refine CW.seq ?_
    refine CW.region ?_
    refine LW.lss (decide ((i : Int) < (ns.length : Int))) rfl rfl (rfl) rfl ?_
    refine LW.nil ?_
    refine NW.then_ ?_
    refine CW.seq ?_
    refine CW.cond rfl (fun hc13 => ?_) (fun hc13 => ?_)
    · have hin : i < ns.length := by simpa using hc13
      obtain ⟨a, rfl⟩ : ∃ a, A = some a := hsrc.some (by rw [List.length_map]; omega)
      have hgi : ns[i]? = some (ns.getD i 0) := by simp [List.getD, List.getElem?_eq_getElem hin]
      have hI : I64 (ns.getD i 0) := hns _ (List.mem_of_getElem? hgi)
      have hel := encs_len (ns.take i)
      rw [List.length_take] at hel
      have hsl := sizeZ_le (ns.getD i 0)
      have hes := encs_succ ns i hin
      generalize hgn : ns.getD i 0 = n at *
      refine CW.skip ?_
      refine NW.then_ ?_
      refine CW.seq ?_
      refine CW.block ?_
      refine CW.seq ?_
      refine CW.region ?_
      refine LW.indexAt rfl rfl Tryf.underlying89 FactsBin1.ixs89 (by omega) (by omega) rfl ?_
      refine LW.loadRd (v := .int .i64 n) rfl (hsrc.rd (by repeat (first | exact Take.head _ _ | apply Take.tail))) (by simp [hgi, i64v]) FactsBin1.one2 rfl ?_
      refine LW.assign rfl rfl ?_
      refine LW.nil ?_
      refine NW.then_ ?_
      refine CW.seq ?_
      refine CW.region ?_
      refine LW.move rfl rfl ?_
      refine LW.call (bin_size _ _ n) Tryf.func37 rfl FactsBin1.fname37 ⟨rfl, trivial⟩ (Take.none _) rfl ?_
      rintro _ _ ⟨rfl, rfl⟩
      refine LW.assign rfl rfl ?_
      refine LW.nil ?_
      refine NW.then_ ?_
      refine CW.seq ?_
      refine CW.region ?_
      refine LW.move rfl rfl ?_
      refine LW.move rfl rfl ?_
      refine LW.nilPtr rfl rfl ?_
      refine LW.fieldAddr _ rfl (fun _ => FactsBin1.fa47_0 _ _ _) rfl ?_
      refine LW.load rfl (by repeat (first | exact Take.head _ _ | apply Take.tail)) rfl FactsBin1.one41 rfl ?_
      refine LW.move rfl rfl ?_
      refine LW.convInt (((UInt8.ofNat (sizeZ n)).toNat : Int)) rfl Tryf.underlying3 Tryf.underlying5 (wrap_u8_nat _ hsl) rfl ?_
      refine LW.buildSlice (vs := [_]) ⟨rfl, trivial⟩ rfl (by intro v hv; simp at hv; subst hv; rfl) Tryf.underlying41 FactsBin1.info5 rfl (by decide) (by decide) rfl ?_
      intro bs25
      refine LW.append ([UInt8.ofNat (sizeZ n)].map u8v) rfl rfl Tryf.underlying41 Tryf.underlying41 (.inr ⟨_, rfl⟩) FactsBin1.info5 rfl (ho1) (by repeat (first | exact Take.head _ _ | apply Take.tail)) (fun _ => lenOf_slice _ _ _ _) (first_rd (RdAt.row (by repeat (first | exact Take.head _ _ | apply Take.tail)) (fun j v hj => by rw [Nat.zero_add]; exact hj)) rfl (fun h => (by cases h))) (rfl) (u8vs_one _) (by rw [List.length_append]; omega) (by rw [List.length_append]; omega) rfl ?_
      intro v2 ch2 ho2; have hv2 := OwnS.one ho2; replace ho2 := OwnB.app ho2 rfl rfl
      refine LW.nilPtr rfl rfl ?_
      refine LW.fieldAddr _ rfl (fun _ => FactsBin1.fa47_0 _ _ _) rfl ?_
      refine LW.store rfl rfl (by repeat (first | exact Take.head _ _ | apply Take.tail)) (by exact Nat.one_pos) FactsBin1.sz41 (hv2) ?_
      refine LW.nil ?_
      refine NW.then_ ?_
      refine CW.seq ?_
      refine CW.region ?_
      refine LW.move rfl rfl ?_
      refine LW.move rfl rfl ?_
      refine LW.nil ?_
      refine NW.then_ ?_
      refine CW.block ?_
      refine CW.loop (fun st : Nat × Value × List Row => [(30, .int .i64 (st.1 : Int)), (29, .int .i64 (sizeZ n : Int)), (5, .int .i64 n), (12, .int .i64 (i : Int)), (11, .int .i64 (ns.length : Int)), (10, .slice (some a) ns.length cp), (0, .pointer (some ⟨w, 0, none⟩))]) (fun st => [src, [cr w 47 [st.2.1]], st.2.2]) (fun st => st.1 ≤ sizeZ n ∧ OwnB st.2.1 (bs ++ encs (ns.take i) ++ [UInt8.ofNat (sizeZ n)] ++ (List.range st.1).map (byteZ n)) st.2.2) (fun st => sizeZ n - st.1) (0, v2, ch2) ?st7_j ?st7_e ?st7_h ?st7_r
      case st7_j => exact ⟨Nat.zero_le _, by simpa using ho2⟩
      case st7_e => repeat (first | exact Env.Le.nil _ | refine Env.Le.cons rfl ?_)
      case st7_h => repeat (first | exact Sub.heap_nil _ | exact Sub.refl _ | refine Sub.heap_cons (Take.none _) ?_ | refine Sub.heap_cons (by repeat (first | exact Take.head _ _ | apply Take.tail)) ?_)
      case st7_r =>
        rintro ⟨j, v3, ch3⟩ ⟨hj, ho3⟩; dsimp only at hj ho3
        refine CW.seq ?_
        refine CW.region ?_
        refine LW.lss (decide ((j : Int) < (sizeZ n : Int))) rfl rfl (rfl) rfl ?_
        refine LW.nil ?_
        refine NW.then_ ?_
        refine CW.seq ?_
        refine CW.cond rfl (fun hc31 => ?_) (fun hc31 => ?_)
        · have hjn : j < sizeZ n := by simpa using hc31
          refine CW.skip ?_
          refine NW.then_ ?_
          refine CW.seq ?_
          refine CW.block ?_
          refine CW.seq ?_
          refine CW.region ?_
          refine LW.move rfl rfl ?_
          refine LW.assign rfl rfl ?_
          refine LW.nil ?_
          refine NW.then_ ?_
          refine CW.drawH [] FactsBin1.mixed ?_
          refine AW.takes [0, 1, 2, 3, 5, 6, 7, 8, 9] 6 (by kernel_rfl) (by kernel_rfl) rfl (by repeat (first | exact PO.body | refine PO.then_ ?_ | refine PO.block ?_ | refine PO.noGoto ?_)) (fun _ s => Held.of s (by repeat (first | exact Sub.nil _ | refine Sub.cons1 (by repeat (first | exact Take.head _ _ | apply Take.tail)) ?_))) ?_
          refine TW.take rfl (Yl.move rfl) rfl ?_
          refine TW.take rfl (Yl.move rfl) rfl ?_
          refine TW.take rfl (Yl.nilPtr rfl) rfl ?_
          refine TW.take rfl (Yl.fieldAddr _ rfl (fun _ => FactsBin1.fa47_0 _ _ _)) rfl ?_
          refine TW.take rfl (Yl.move rfl) rfl ?_
          refine TW.take rfl (Yl.move rfl) rfl ?_
          refine TW.take rfl (Yl.mul ((8 * j : Int)) rfl rfl (by first | rfl | exact wr64 (by omega) (by omega) (by omega))) rfl ?_
          refine TW.take rfl (Yl.shr (n.fdiv (2 ^ (8 * j))) rfl rfl (by omega) (shb n j (by omega))) rfl ?_
          refine TW.take rfl (Yl.convInt (((byteZ n j).toNat : Int)) rfl Tryf.underlying2 Tryf.underlying5 (wrap_u8 _)) rfl ?_
          refine TW.nil ?_
          refine AW.all [4, 10] (by kernel_rfl) rfl ?_
          refine AWs.cons rfl ?_ ?_
          · refine LW.load rfl (by repeat (first | exact Take.head _ _ | apply Take.tail)) rfl FactsBin1.one41 rfl ?_
            refine LW.nil ?_
            refine AW.back (fun _ s => Held.of s (by repeat (first | exact Sub.nil _ | refine Sub.cons1 (by repeat (first | exact Take.head _ _ | apply Take.tail)) ?_))) ?_
            refine AW.act 10 (by kernel_rfl) rfl ?_
            refine LW.buildSlice (vs := [_]) ⟨rfl, trivial⟩ rfl (by intro v hv; simp at hv; subst hv; rfl) Tryf.underlying41 FactsBin1.info5 rfl (by decide) (by decide) rfl ?_
            intro bs43
            refine LW.nil ?_
            refine AW.back (fun _ s => Held.of s (by repeat (first | exact Sub.nil _ | refine Sub.cons1 (by repeat (first | exact Take.head _ _ | apply Take.tail)) ?_))) ?_
            refine AW.act 11 (by kernel_rfl) rfl ?_
            refine LW.append ([byteZ n j].map u8v) rfl rfl Tryf.underlying41 Tryf.underlying41 (.inr ⟨_, rfl⟩) FactsBin1.info5 rfl (ho3) (by repeat (first | exact Take.head _ _ | apply Take.tail)) (fun _ => lenOf_slice _ _ _ _) (first_rd (RdAt.row (by repeat (first | exact Take.head _ _ | apply Take.tail)) (fun j v hj => by rw [Nat.zero_add]; exact hj)) rfl (fun h => (by cases h))) (rfl) (u8vs_one _) (by simp only [List.length_append, List.length_map, List.length_range, List.length_singleton]; omega) (by simp only [List.length_append, List.length_map, List.length_range, List.length_singleton]; omega) rfl ?_
            intro v4 ch4 ho4; have hv4 := OwnS.one ho4; replace ho4 := OwnB.app ho4 rfl rfl
            refine LW.nil ?_
            refine AW.back (fun _ s => Held.of s (by repeat (first | exact Sub.nil _ | refine Sub.cons1 (by repeat (first | exact Take.head _ _ | apply Take.tail)) ?_))) ?_
            refine AW.takes [12, 13] 1 (by kernel_rfl) (by kernel_rfl) rfl (by repeat (first | exact PO.body | refine PO.then_ ?_ | refine PO.block ?_ | refine PO.noGoto ?_)) (fun _ s => Held.of s (by repeat (first | exact Sub.nil _ | refine Sub.cons1 (by repeat (first | exact Take.head _ _ | apply Take.tail)) ?_))) ?_
            refine TW.take rfl (Yl.nilPtr rfl) rfl ?_
            refine TW.take rfl (Yl.fieldAddr _ rfl (fun _ => FactsBin1.fa47_0 _ _ _)) rfl ?_
            refine TW.nil ?_
            refine AW.act 14 (by kernel_rfl) rfl ?_
            refine LW.store rfl rfl (by repeat (first | exact Take.head _ _ | apply Take.tail)) (by exact Nat.one_pos) FactsBin1.sz41 (hv4) ?_
            refine LW.nil ?_
            refine AW.back (fun _ s => Held.of s (by repeat (first | exact Sub.nil _ | refine Sub.cons1 (by repeat (first | exact Take.head _ _ | apply Take.tail)) ?_))) ?_
            refine AW.done (by kernel_rfl) ?_
            refine NW.block ?_
            refine NW.then_ ?_
            refine CW.region ?_
            refine LW.add ((j + 1 : Int)) rfl rfl (by first | rfl | exact wr64 (by omega) (by omega) (by omega)) rfl ?_
            refine LW.move rfl rfl ?_
            refine LW.nil ?_
            refine NW.meet ((j + 1, v4, ch4)) ?j1 ?e1 ?h1
            case j1 => exact ⟨⟨hjn, by rw [List.range_succ, List.map_append, ← List.append_assoc]; exact ho4⟩, by dsimp only; omega⟩
            case e1 => repeat (first | exact Env.Le.nil _ | refine Env.Le.cons rfl ?_)
            case h1 => repeat (first | exact Sub.heap_nil _ | exact Sub.refl _ | refine Sub.heap_cons (Take.none _) ?_ | refine Sub.heap_cons (by repeat (first | exact Take.head _ _ | apply Take.tail)) ?_)
          refine AWs.cons rfl ?_ ?_
          · refine LW.buildSlice (vs := [_]) ⟨rfl, trivial⟩ rfl (by intro v hv; simp at hv; subst hv; rfl) Tryf.underlying41 FactsBin1.info5 rfl (by decide) (by decide) rfl ?_
            intro bs43
            refine LW.nil ?_
            refine AW.back (fun _ s => Held.of s (by repeat (first | exact Sub.nil _ | refine Sub.cons1 (by repeat (first | exact Take.head _ _ | apply Take.tail)) ?_))) ?_
            refine AW.act 4 (by kernel_rfl) rfl ?_
            refine LW.load rfl (by repeat (first | exact Take.head _ _ | apply Take.tail)) rfl FactsBin1.one41 rfl ?_
            refine LW.nil ?_
            refine AW.back (fun _ s => Held.of s (by repeat (first | exact Sub.nil _ | refine Sub.cons1 (by repeat (first | exact Take.head _ _ | apply Take.tail)) ?_))) ?_
            refine AW.act 11 (by kernel_rfl) rfl ?_
            refine LW.append ([byteZ n j].map u8v) rfl rfl Tryf.underlying41 Tryf.underlying41 (.inr ⟨_, rfl⟩) FactsBin1.info5 rfl (ho3) (by repeat (first | exact Take.head _ _ | apply Take.tail)) (fun _ => lenOf_slice _ _ _ _) (first_rd (RdAt.row (by repeat (first | exact Take.head _ _ | apply Take.tail)) (fun j v hj => by rw [Nat.zero_add]; exact hj)) rfl (fun h => (by cases h))) (rfl) (u8vs_one _) (by simp only [List.length_append, List.length_map, List.length_range, List.length_singleton]; omega) (by simp only [List.length_append, List.length_map, List.length_range, List.length_singleton]; omega) rfl ?_
            intro v4 ch4 ho4; have hv4 := OwnS.one ho4; replace ho4 := OwnB.app ho4 rfl rfl
            refine LW.nil ?_
            refine AW.back (fun _ s => Held.of s (by repeat (first | exact Sub.nil _ | refine Sub.cons1 (by repeat (first | exact Take.head _ _ | apply Take.tail)) ?_))) ?_
            refine AW.takes [12, 13] 1 (by kernel_rfl) (by kernel_rfl) rfl (by repeat (first | exact PO.body | refine PO.then_ ?_ | refine PO.block ?_ | refine PO.noGoto ?_)) (fun _ s => Held.of s (by repeat (first | exact Sub.nil _ | refine Sub.cons1 (by repeat (first | exact Take.head _ _ | apply Take.tail)) ?_))) ?_
            refine TW.take rfl (Yl.nilPtr rfl) rfl ?_
            refine TW.take rfl (Yl.fieldAddr _ rfl (fun _ => FactsBin1.fa47_0 _ _ _)) rfl ?_
            refine TW.nil ?_
            refine AW.act 14 (by kernel_rfl) rfl ?_
            refine LW.store rfl rfl (by repeat (first | exact Take.head _ _ | apply Take.tail)) (by exact Nat.one_pos) FactsBin1.sz41 (hv4) ?_
            refine LW.nil ?_
            refine AW.back (fun _ s => Held.of s (by repeat (first | exact Sub.nil _ | refine Sub.cons1 (by repeat (first | exact Take.head _ _ | apply Take.tail)) ?_))) ?_
            refine AW.done (by kernel_rfl) ?_
            refine NW.block ?_
            refine NW.then_ ?_
            refine CW.region ?_
            refine LW.add ((j + 1 : Int)) rfl rfl (by first | rfl | exact wr64 (by omega) (by omega) (by omega)) rfl ?_
            refine LW.move rfl rfl ?_
            refine LW.nil ?_
            refine NW.meet ((j + 1, v4, ch4)) ?j2 ?e2 ?h2
            case j2 => exact ⟨⟨hjn, by rw [List.range_succ, List.map_append, ← List.append_assoc]; exact ho4⟩, by dsimp only; omega⟩
            case e2 => repeat (first | exact Env.Le.nil _ | refine Env.Le.cons rfl ?_)
            case h2 => repeat (first | exact Sub.heap_nil _ | exact Sub.refl _ | refine Sub.heap_cons (Take.none _) ?_ | refine Sub.heap_cons (by repeat (first | exact Take.head _ _ | apply Take.tail)) ?_)
          exact AWs.nil
        · have hje : j = sizeZ n := by have := of_decide_eq_false hc31; omega
          subst hje
          refine CW.exit ?_
          refine NW.then_exit ?_
          refine NW.then_exit ?_
          refine NW.block_exit ?_
          refine NW.block ?_
          refine NW.then_ ?_
          refine CW.region ?_
          refine LW.add ((i + 1 : Int)) rfl rfl (by first | rfl | exact wr64 (by omega) (by omega) (by omega)) rfl ?_
          refine LW.move rfl rfl ?_
          refine LW.nil ?_
          refine NW.meet ((i + 1, v3, ch3)) ?j3 ?e3 ?h3
          case j3 => exact ⟨⟨hin, by rw [hes, ← List.append_assoc]; simpa [encZ] using ho3⟩, by dsimp only; omega⟩
          case e3 => repeat (first | exact Env.Le.nil _ | refine Env.Le.cons rfl ?_)
          case h3 => repeat (first | exact Sub.heap_nil _ | exact Sub.refl _ | refine Sub.heap_cons (Take.none _) ?_ | refine Sub.heap_cons (by repeat (first | exact Take.head _ _ | apply Take.tail)) ?_)
    · have hie : i = ns.length := by have := of_decide_eq_false hc13; omega
      subst hie
      rw [List.take_length] at ho1
      refine CW.exit ?_
      refine NW.then_exit ?_
      refine NW.then_exit ?_
      refine NW.block_exit ?_
      refine NW.end0 rfl  ⟨_, ⟨rfl, v1, ch1, ho1, rfl⟩, ?_⟩
      exact Sub.take (p := src) (by repeat (first | exact Take.head _ _ | apply Take.tail)) (Sub.take (p := [_]) (by repeat (first | exact Take.head _ _ | apply Take.tail)) (Sub.one (by repeat (first | exact Take.head _ _ | apply Take.tail))))
end
end Go.Proofs.YtemdebmfdhamgaaFmt
