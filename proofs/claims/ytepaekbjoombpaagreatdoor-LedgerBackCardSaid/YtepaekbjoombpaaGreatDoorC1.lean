/- Walks: Clone, Insert. -/
import Derived.Test.YtepaekbjoombpaaGreatDoorA5
import Derived.Test.YtepaekbjoombpaaGreatDoorEngI
import Derived.Test.YtepaekbjoombpaaGreatDoorEngA
import Derived.Laws.Externs
import Derived.Test.YtepaekbjoombpaaGreatDoorRunU
namespace Go.Proofs.YtepaekbjoombpaaGreatDoor
open Go Go.Proofs Go.Eng Go.Run Tab
set_option maxRecDepth 100000
set_option linter.unusedSimpArgs false
set_option linter.unusedVariables false
set_option maxHeartbeats 2000000
set_option linter.defProp false
def C1Fs68 := (And.intro (And.intro @by26 @inf26) (And.intro @sz26 @Tryz.underlying22))
def C1Fs69 := (And.intro (And.intro @by26 @inf26) (And.intro @sz26 (And.intro @zero26 @Tryz.underlying22)))
theorem overlaps110 {e : Env} {h : Eng.Heap} {ty : TypeId} {x y : Operand} {ats : Array TypeId} {ga oa gb ob la ca lb cb : Nat} {xs ys : Array Value} {tA tB : TypeId} (hx : ev e x = .slice (some ⟨ga, oa, none⟩) la ca) (hy : ev e y = .slice (some ⟨gb, ob, none⟩) lb cb)
    (ha : h[ga]? = some (.cells xs tA (0, 0))) (hb : h[gb]? = some (.cells ys tB (0, 0))) (hne : ga ≠ gb) (hz : ys.size ≠ 0) {K : Value → Eng.Heap → Prop} (H : K (.bool false) h) : opSem Tryz.prog (.call ⟨.value (.func 110), #[x, y], ats⟩) ty e h K :=
  opSem_pure rfl (.bool false) H fun w hw => by
    have e1 : ev e (Operand.func 110) = Value.func (.func 110) #[] #[] := rfl
    simp only [execOp, resolve, e1, Deferred.ofValue, invoke, Sem.run_bind, Sem.run_pure, Result.andThen_ok]
    have h1 : (callFunc 110 #[.slice (some ⟨ga, oa, none⟩) la ca, .slice (some ⟨gb, ob, none⟩) lb cb]).run Tryz.prog w = .ok (.value (.bool false)) w := by
      rw [run_callFunc_extern (fn := Tryz.f110) (by kernel_rfl) (by kernel_rfl) (by kernel_rfl) (by kernel_rfl) (e := Extern.SlicesOverlaps.overlaps #[22, 22] #[4]) (by kernel_rfl)]
      obtain ⟨j, hj⟩ := Option.isSome_iff_exists.1 inf26
      have hsz : ∀ w, (Go.sizeOf 26).run Tryz.prog w = .ok j.size w := fun w => by simp [sizeOf, typeInfo, hj]
      rw [Lib.run_overlaps_apart w 22 4 26 Tryz.underlying22 j.size hsz ⟨ga, oa, none⟩ ⟨gb, ob, none⟩ la ca lb cb hne tA tB xs.size ys.size (by unfold World.shape?; rw [hw, ha]) (by unfold World.shape?; rw [hw, hb]) hz (by unfold World.frozen?; rw [hw, ha]; simp) (by unfold World.frozen?; rw [hw, ha]; simp)]
      rfl
    simpa [hx, hy] using h1
theorem row_upd {h h' : Eng.Heap} {a : Option Addr} {vs : List Value} {b : Nat} (H : Row h a vs) (u : Upd h h' b) (hne : ∀ p, a = some p → p.block ≠ b) : Row h' a vs := by
  rcases H with H | ⟨g, off, cur, ct, fr, h1, h2, h3, h4⟩
  · exact .inl H
  · exact .inr ⟨g, off, cur, ct, fr, h1, u.get h2 (hne _ h1), h3, h4⟩
theorem app22e {h : Eng.Heap} {er : Env} {ty : TypeId} {m0 : Nat} {x y : Operand} {a b : Option Addr} {len cap m c : Nat} {xs ys : List En} {K : Value → Eng.Heap → Prop} (hx : ev er x = .slice a len cap) (hy : ev er y = .slice b m c) (O : OwnV m0 h 26 4 a len cap (ensV xs)) (h0h : m0 ≤ h.size) (I : Row h b (ensV ys)) (hm : ys.length = m) (hb : len + m ≤ 1000)
    (H : ∀ a' cap' h', OwnV m0 h' 26 4 a' (len + m) cap' (ensV (xs ++ ys)) → App h h' a a' → K (.slice a' (len + m) cap') h') : opSem Tryz.prog (.call ⟨.builtin .append, #[x, y], #[22, 22]⟩) ty er h K :=
  append_valsT Tryz.underlying22 Tryz.underlying22 inf26 sz26 zero26 (by rfl) hx hy O h0h I (by rw [ensV_length, hm]) (fun u hu => by
    simp only [ensV, List.mem_flatMap, enV] at hu
    obtain ⟨e, _, hu⟩ := hu
    simp at hu
    rcases hu with rfl | rfl | rfl | rfl <;> rfl) (by omega) (by rw [by26]; omega) (fun a' cap' h' O' A => H a' cap' h' (by rw [ensV_append]; exact O') A)
theorem sliceNil {P : Program} {e : Env} {h : Eng.Heap} {ty u yt el : TypeId} (hu : P.underlying u = some (.slice el)) {x y : Operand} {a : Option Addr} {n c : Nat} (hx : ev e x = .slice a n c) (hy : ev e y = .slice none 0 0) {K : Value → Eng.Heap → Prop} (H : K (.bool a.isNone) h) : opSem P (.binOp .eql u x y yt) ty e h K :=
  opSem_pure rfl _ H fun w _ => by simp [execOp, hx, hy, eqGuard, Go.binOp, eq_slice hu]
theorem binW_slice {op : BinOp} {a b : Option Addr} {n c n2 c2 : Nat} {h : Eng.Heap} {K : Value → Eng.Heap → Prop} {F : Prop} : binW op (.slice a n c) (.slice b n2 c2) h K F = F := by unfold binW; rfl
theorem clone69 (a : Option Addr) (n c : Nat) (es : List En) (h : Eng.Heap) (hr : Row h a (ensV es)) (hn : n = es.length) (hl : n ≤ 900) :
    CallsH Tryz.prog 69 #[.slice a n c] h (fun v h' => ∃ a' c', v = .slice a' n c' ∧ OwnV h.size h' 26 4 a' n c' (ensV es) ∧ Ext h h') := by
  refine CallsH_of_exec Tryz.func69 rfl bod69 ?_
  simp only [Tryz.ntmps69, Tryz.results69, coreS, stK_some, splice, Value.cells, Value.oneCell', Nat.reduceAdd, Nat.reduceSub, Nat.reduceMul, Nat.reduceLeDiff, Int.reduceEq, Nat.reduceEqDiff, C1Fs69]
  rw [binW_slice]
  refine sliceNil Tryz.underlying22 rfl rfl ?_
  cases a with
  | none =>
    have he : es = [] := by
      rcases hr with hr | ⟨_, _, _, _, _, h1, _⟩
      · have := congrArg List.length hr
        rw [ensV_length] at this
        exact List.eq_nil_of_length_eq_zero (by simp at this; omega)
      · cases h1
    subst he
    subst hn
    simp only [Option.isNone, coreS, Value.cells, Value.oneCell', Nat.reduceAdd, Nat.reduceSub, Nat.reduceMul, Nat.reduceLeDiff, Int.reduceEq, Nat.reduceEqDiff, C1Fs69]
    exact ⟨none, 0, rfl, OwnV.nil _ _ _ _, Ext.refl _⟩
  | some a =>
    simp only [Option.isNone, coreS, Value.cells, Value.oneCell', Nat.reduceAdd, Nat.reduceSub, Nat.reduceMul, Nat.reduceLeDiff, Int.reduceEq, Nat.reduceEqDiff, C1Fs69]
    refine ⟨by omega, ?_⟩
    have O0 : OwnV h.size (h.push (.cells #[] 26)) 26 4 (some ⟨h.size, 0, none⟩) 0 0 (ensV []) := ⟨rfl, .inr ⟨h.size, #[], rfl, Nat.le_refl _, push_new, by simp, Nat.le_refl _, rfl⟩⟩
    refine app22e rfl rfl O0 (by simp) (hr.push _) hn.symm (by omega) fun a' c' h' O A => ?_
    simp only [coreS, Value.cells, Value.oneCell', Nat.reduceAdd, Nat.reduceSub, Nat.reduceMul, Nat.reduceLeDiff, Int.reduceEq, Nat.reduceEqDiff, C1Fs69]
    refine ⟨a', c', rfl, by rw [Nat.zero_add] at O; exact O, A.extV O0 ((Ext.refl h).push _) (Nat.le_refl _)⟩
theorem splice_at {c A B C vs : List Value} {off : Nat} (hc : c = A ++ (B ++ C)) (ho : off = A.length) (hb : B.length = vs.length) : splice c off vs = A ++ (vs ++ C) := by
  subst hc ho
  unfold splice
  rw [List.take_left, ← List.drop_drop, List.drop_left, ← hb, List.drop_left, List.append_assoc]
theorem ins_new {A D zs tl ev : List Value} {i n : Nat} (hA : A.length = i * 4) (hD : D.length = (n - i) * 4) (hz : zs.length = (n + 1 - i) * 4) (hi : i ≤ n) (he : ev.length = 4) :
    splice (splice (A ++ (zs ++ tl)) (i * 4) ev) ((i + 1) * 4) D = A ++ (ev ++ (D ++ tl)) := by
  have h1 : splice (A ++ (zs ++ tl)) (i * 4) ev = A ++ (ev ++ (zs.drop 4 ++ tl)) :=
    splice_at (A := A) (B := zs.take 4) (C := zs.drop 4 ++ tl) (by rw [← List.append_assoc (zs.take 4), List.take_append_drop]) hA.symm (by rw [List.length_take]; omega)
  rw [h1]
  have h2 := splice_at (c := A ++ (ev ++ (zs.drop 4 ++ tl))) (A := A ++ ev) (B := zs.drop 4) (C := tl) (vs := D) (off := (i + 1) * 4) (by simp) (by simp; omega) (by rw [List.length_drop]; omega)
  rw [h2]; simp
theorem ins_room {A D tl ev : List Value} {i n : Nat} (hA : A.length = i * 4) (hD : D.length = (n - i) * 4) (ht : 4 ≤ tl.length) (hi : i ≤ n) (he : ev.length = 4) :
    splice (splice (A ++ (D ++ tl)) ((i + 1) * 4) D) (i * 4) ev = A ++ (ev ++ (D ++ tl.drop 4)) := by
  have h1 : splice (A ++ (D ++ tl)) ((i + 1) * 4) D = A ++ ((D ++ tl).take 4 ++ (D ++ tl.drop 4)) := by
    have hw : (D ++ tl) = (D ++ tl).take 4 ++ (((D ++ tl).drop 4).take D.length ++ tl.drop 4) := by
      have e1 : tl.drop 4 = ((D ++ tl).drop 4).drop D.length := by
        rw [List.drop_drop, Nat.add_comm, ← List.drop_drop, List.drop_left]
      rw [e1, List.take_append_drop, List.take_append_drop]
    have h2 := splice_at (c := A ++ (D ++ tl)) (A := A ++ (D ++ tl).take 4) (B := ((D ++ tl).drop 4).take D.length) (C := tl.drop 4) (vs := D) (off := (i + 1) * 4) (by rw [List.append_assoc, ← hw]) (by simp [hA]; omega) (by simp; omega)
    rw [h2]; simp
  rw [h1]
  exact splice_at rfl hA.symm (by simp; omega)
theorem bltW_cap {vs : List Value} {u : Option TypeDesc} {h : Eng.Heap} {K : Value → Eng.Heap → Prop} {F : Prop} : bltW .cap vs u h K F = F := by
  unfold bltW
  split <;> first | rfl | (rename_i hh; cases hh) | simp_all
theorem capS {e : Env} {h : Eng.Heap} {ty t el : TypeId} (hu : Tryz.prog.underlying t = some (.slice el)) {x : Operand} {a : Option Addr} {n c : Nat} (hx : ev e x = .slice a n c) {K : Value → Eng.Heap → Prop} (H : K (.int .i64 c) h) : opSem Tryz.prog (.call ⟨.builtin .cap, #[x], #[t]⟩) ty e h K :=
  opSem_pure rfl _ H fun w _ => by simp [execOp, resolve, invoke, builtin, hx, Builtin.cap_, goInt, run_underlying hu]
theorem insert68 (m0 : Nat) (a : Option Addr) (n c i b : Nat) (es : List En) (e : En) (h : Eng.Heap) (O : OwnV m0 h 26 4 a n c (ensV es)) (h0h : m0 ≤ h.size) (hn : n = es.length) (hi : i ≤ n) (hl : n ≤ 900)
    (hb : h[b]? = some (.cells #[.int .i64 e.d, .int .i64 e.f, .int .i64 e.t, .int .i64 e.a] 26)) (hne : ∀ p, a = some p → p.block ≠ b) :
    CallsH Tryz.prog 68 #[.slice a n c, .int .i64 i, .slice (some ⟨b, 0, none⟩) 1 1] h (fun v h' => ∃ a' c', v = .slice a' (n + 1) c' ∧ Row h' a' (ensV (es.take i ++ e :: es.drop i)) ∧ (∀ p, a' = some p → m0 ≤ p.block) ∧ ∀ h1, Ext h1 h → h1.size ≤ m0 → Ext h1 h') := by
  have hcap := O.cap
  have Ib : Row h (some ⟨b, 0, none⟩) (ensV [e]) := Row.block (by simpa [ensV, enV] using hb)
  refine CallsH_of_WP Tryz.func68 rfl bod68 ?_
  simp only [Tryz.ntmps68, Tryz.results68]
  refine WP_seq (exec_sound _ _ _ _ _ ?_)
  simp only [coreS, Value.cells, Value.oneCell', Nat.reduceAdd, Nat.reduceSub, Nat.reduceMul, Nat.reduceLeDiff, Int.reduceEq, Nat.reduceEqDiff, C1Fs68]
  refine WP_seq (exec_sound _ _ _ _ _ ?_)
  simp only [coreS, Value.cells, Value.oneCell', Nat.reduceAdd, Nat.reduceSub, Nat.reduceMul, Nat.reduceLeDiff, Int.reduceEq, Nat.reduceEqDiff, C1Fs68]
  refine ⟨by omega, by omega, by omega, by omega, ?_⟩
  refine WP_seq (exec_sound _ _ _ _ _ ?_)
  simp only [coreS, Value.cells, Value.oneCell', Nat.reduceAdd, Nat.reduceSub, Nat.reduceMul, Nat.reduceLeDiff, Int.reduceEq, Nat.reduceEqDiff, C1Fs68]
  refine WP_seq (exec_sound _ _ _ _ _ ?_)
  simp only [coreS, Value.cells, Value.oneCell', Nat.reduceAdd, Nat.reduceSub, Nat.reduceMul, Nat.reduceLeDiff, Int.reduceEq, Nat.reduceEqDiff, C1Fs68]
  refine ⟨fun h1 => absurd h1 (by omega), fun _ => ?_⟩
  refine WP_seq (exec_sound _ _ _ _ _ ?_)
  simp only [coreS, Value.cells, Value.oneCell', Nat.reduceAdd, Nat.reduceSub, Nat.reduceMul, Nat.reduceLeDiff, Int.reduceEq, Nat.reduceEqDiff, C1Fs68]
  refine WP_seq (exec_sound _ _ _ _ _ ?_)
  by_cases hin : i = n
  · have hin2 : (i : Int) = (n : Int) := by omega
    simp only [hin2, decide_true, coreS, Value.cells, Value.oneCell', Nat.reduceAdd, Nat.reduceSub, Nat.reduceMul, Nat.reduceLeDiff, Int.reduceEq, Nat.reduceEqDiff, C1Fs68]
    refine app22e rfl rfl O h0h Ib rfl (by omega) fun a' c' h' O' A => ?_
    simp only [coreS, Value.cells, Value.oneCell', Nat.reduceAdd, Nat.reduceSub, Nat.reduceMul, Nat.reduceLeDiff, Int.reduceEq, Nat.reduceEqDiff, C1Fs68]
    refine ⟨a', c', rfl, ?_, fun p hp => (O'.lt hp).2, fun h1 x hm => A.extV O x hm⟩
    have : es.take i ++ e :: es.drop i = es ++ [e] := by rw [List.take_of_length_le (by omega), List.drop_of_length_le (by omega)]
    rw [this]
    exact O'.row
  have hin2 : ¬ (i : Int) = (n : Int) := by omega
  simp only [hin2, decide_false, coreS, Value.cells, Value.oneCell', Nat.reduceAdd, Nat.reduceSub, Nat.reduceMul, Nat.reduceLeDiff, Int.reduceEq, Nat.reduceEqDiff, C1Fs68]
  refine WP_seq (exec_sound _ _ _ _ _ ?_)
  simp only [coreS, Value.cells, Value.oneCell', Nat.reduceAdd, Nat.reduceSub, Nat.reduceMul, Nat.reduceLeDiff, Int.reduceEq, Nat.reduceEqDiff, C1Fs68]
  rcases O.ok with ⟨rfl, h1, h2⟩ | ⟨g, cur, rfl, q1, q2, q3, q4, q5⟩
  · omega
  have hgb : g ≠ b := hne _ rfl
  have hsp : cur.toList = ensV (es.take i) ++ (ensV (es.drop i) ++ cur.toList.drop (n * 4)) := by
    have e1 : ensV (es.take i) ++ ensV (es.drop i) = cur.toList.take (n * 4) := by rw [← ensV_append, List.take_append_drop, q5]
    rw [← List.append_assoc, e1, List.take_append_drop]
  have lA : (ensV (es.take i)).length = i * 4 := by rw [ensV_length, List.length_take]; omega
  have lD : (ensV (es.drop i)).length = (n - i) * 4 := by rw [ensV_length, List.length_drop]; omega
  have one : ∀ es : List En, ∀ u ∈ ensV es, u.oneCell' = true := fun es u hu => by
    simp only [ensV, List.mem_flatMap, enV] at hu
    obtain ⟨e, _, hu⟩ := hu
    simp at hu
    rcases hu with rfl | rfl | rfl | rfl <;> rfl
  have efin : ensV (es.take i) ++ (enV e ++ ensV (es.drop i)) = ensV (es.take i ++ e :: es.drop i) := by rw [ensV_append, ensV_cons]
  have lF : (ensV (es.take i ++ e :: es.drop i)).length = (n + 1) * 4 := by rw [← efin, List.length_append, List.length_append, lA, lD]; simp [enV]; omega
  have e1n : (n : Int) + ((1 : Nat) : Int) = ((n + 1 : Nat) : Int) := by omega
  have e2n : ((n + 1 : Nat) : Int) - (i : Int) = ((n + 1 - i : Nat) : Int) := by omega
  have e3n : (i : Int) + ((1 : Nat) : Int) = ((i + 1 : Nat) : Int) := by omega
  refine ⟨by rw [inK_i64]; omega, ?_⟩
  rw [bltW_cap]
  refine capS Tryz.underlying22 rfl ?_
  simp only [e1n, coreS, Value.cells, Value.oneCell', Nat.reduceAdd, Nat.reduceSub, Nat.reduceMul, Nat.reduceLeDiff, Int.reduceEq, Nat.reduceEqDiff, C1Fs68]
  by_cases hroom : n + 1 ≤ c
  · refine ⟨fun h1 => absurd h1 (by omega), fun _ => ?_⟩
    refine WP_seq (exec_sound _ _ _ _ _ ?_)
    simp only [e1n, coreS, Value.cells, Value.oneCell', Nat.reduceAdd, Nat.reduceSub, Nat.reduceMul, Nat.reduceLeDiff, Int.reduceEq, Nat.reduceEqDiff, C1Fs68]
    have f3 : ¬ ((c : Int) = (i : Int)) := by omega
    have t3 : (((n + 1 : Nat) : Int) - ((0 : Nat) : Int)).toNat = n + 1 := by omega
    have t2 : ((c : Int) - ((0 : Nat) : Int)).toNat = c := by omega
    simp only [f3, t3, t2, ite_self, if_false]
    refine ⟨by rw [inK_i64]; omega, by omega, by omega, by omega, by omega, ?_⟩
    refine WP_seq (WP_seq (WP_regionJ 6 ?_))
    simp only [execJ, e3n, coreS, Value.cells, Value.oneCell', Nat.reduceAdd, Nat.reduceSub, Nat.reduceMul, Nat.reduceLeDiff, Int.reduceEq, Nat.reduceEqDiff, C1Fs68]
    have f4 : ¬ ((c : Int) = ((i + 1 : Nat) : Int)) := by omega
    have t5 : (((n + 1 : Nat) : Int) - ((i + 1 : Nat) : Int)).toNat = n - i := by omega
    have t4 : (((n + 1 : Nat) : Int) - (i : Int)).toNat = n + 1 - i := by omega
    simp only [f4, if_false]
    refine ⟨by rw [inK_i64]; omega, by omega, by omega, by omega, by omega, ?_⟩
    refine overlaps110 rfl rfl hb q2 (Ne.symm hgb) (by omega) ?_
    simp only [coreS, Value.cells, Value.oneCell', Nat.reduceAdd, Nat.reduceSub, Nat.reduceMul, Nat.reduceLeDiff, Int.reduceEq, Nat.reduceEqDiff, C1Fs68]
    refine WP_cond (b := true) rfl ?_
    simp only [if_true]
    refine exec_sound _ _ _ _ _ ?_
    simp only [coreS, Value.cells, Value.oneCell', Nat.reduceAdd, Nat.reduceSub, Nat.reduceMul, Nat.reduceLeDiff, Int.reduceEq, Nat.reduceEqDiff, C1Fs68]
    refine WP_draw (by kernel_rfl) sta_eq [(0, 0), (1, 0), (2, 0), (3, 0), (4, 0), (5, 0), (6, 0), (7, 0), (8, 1)] (by kernel_rfl) rfl (by kernel_rfl) ?_
    simp only [e3n, f4, t5, f3, t4, if_false, coreS, Value.cells, Value.oneCell', Nat.reduceAdd, Nat.reduceSub, Nat.reduceMul, Nat.reduceLeDiff, Int.reduceEq, Nat.reduceEqDiff, drawS, C1Fs68]
    refine ⟨by rw [inK_i64]; omega, by omega, by omega, by omega, by omega, by omega, by omega, by omega, by omega, ?_⟩
    have hrow1 : Row h (some ⟨g, i * 4, none⟩) (ensV (es.drop i) ++ (cur.toList.drop (n * 4)).take 4) := by
      refine .inr ⟨g, i * 4, cur, 26, (0, 0), rfl, q2, ?_, ?_⟩
      · rw [List.length_append, lD, List.length_take, List.length_drop, Array.length_toList]; omega
      · conv => lhs; rw [hsp, ← lA, List.drop_left]
        rw [List.take_append, List.take_of_length_le (by simp)]
        congr 1
        simp [lA, lD]
        omega
    refine copy_valsT (s := 4) (cur := cur.toList) Tryz.underlying22 Tryz.underlying22 inf26 sz26 rfl rfl (by simpa using q2) (by rw [Array.length_toList]; omega) hrow1 (by rw [List.length_append, lD, List.length_take, List.length_drop, Array.length_toList]; omega) ?_ fun h3 g3 u3 => ?_
    · intro u hu
      rw [List.take_append_of_le_length (by omega), List.take_of_length_le (by omega)] at hu
      exact one _ u hu
    rw [List.take_append_of_le_length (by omega), List.take_of_length_le (by omega)] at g3
    simp only [hvK_eq, f3, t4, if_false, coreS, Value.cells, Value.oneCell', Nat.reduceAdd, Nat.reduceSub, Nat.reduceMul, Nat.reduceLeDiff, Int.reduceEq, Nat.reduceEqDiff, drawS, C1Fs68]
    refine ⟨by omega, by omega, by omega, by omega, ?_⟩
    have hI3 : Row h3 (some ⟨b, 0, none⟩) (ensV [e]) := Row.block (by simpa [ensV, enV] using u3.get hb (Ne.symm hgb))
    refine copy_valsT (s := 4) (off := i * 4) (n := n + 1 - i) Tryz.underlying22 Tryz.underlying22 inf26 sz26 rfl rfl g3 (by simp [splice, lD]; omega) hI3 (by rfl) (fun u hu => one [e] u (List.mem_of_mem_take hu)) fun h4 g4 u4 => ?_
    have e5 : (ensV [e]).take ((n + 1 - i) * 4) = enV e := by
      rw [List.take_of_length_le (by rw [ensV_length]; simp; omega)]; simp [ensV]
    rw [e5, hsp, ins_room lA lD (by rw [List.length_drop, Array.length_toList]; omega) hi (by rfl), ← List.append_assoc (enV e), ← List.append_assoc, efin] at g4
    simp only [coreS, Value.cells, Value.oneCell', Nat.reduceAdd, Nat.reduceSub, Nat.reduceMul, Nat.reduceLeDiff, Int.reduceEq, Nat.reduceEqDiff, C1Fs68]
    refine ⟨_, _, rfl, ?_, fun p hp => (by cases hp; exact q1), fun h1 x hm => u4.ext (u3.ext x (by omega)) (by omega)⟩
    have := Row.block g4
    have := this.take ((n + 1) * 4)
    rwa [List.take_append_of_le_length (by omega), List.take_of_length_le (by omega)] at this
  · refine ⟨fun _ => ?_, fun h1 => absurd h1 (by omega)⟩
    simp only [e2n]
    refine ⟨by omega, by omega, by omega, by omega, by rw [inK_i64]; omega, by rw [inK_i64]; omega, ?_⟩
    have t1 : ((i : Int) - ((0 : Nat) : Int)).toNat = i := by omega
    have t2 : ((c : Int) - ((0 : Nat) : Int)).toNat = c := by omega
    simp only [t1, t2, ite_self]
    have hrow : Row h (some ⟨g, 0, none⟩) (ensV (es.take i)) := by
      have := O.row.take (i * 4)
      rwa [ensV_take] at this
    refine append_zerosT (h0 := m0) (s := 4) (len := i) (cap := c) (k := n + 1 - i) Tryz.underlying22 Tryz.underlying3 inf26 sz26 zero26 rfl (by omega) rfl rfl hrow lA (by omega) (by omega) (by omega) (by rw [by26]; omega) h0h fun c2 h2 zs hz O2 x2 => ?_
    have hin3 : i + (n + 1 - i) = n + 1 := by omega
    rw [hin3] at O2 ⊢
    simp only [coreS, Value.cells, Value.oneCell', Nat.reduceAdd, Nat.reduceSub, Nat.reduceMul, Nat.reduceLeDiff, Int.reduceEq, Nat.reduceEqDiff, C1Fs68]
    have c2n := O2.cap
    rcases O2.ok with ⟨hno, _⟩ | ⟨B, cur2, hB, m1, m2, m3, m4, m5⟩
    · cases hno
    cases hB
    have hgB : g ≠ h.size := by have := lt_of_get q2; omega
    have f1 : ¬ ((c2 : Int) = (i : Int)) := by omega
    have f2 : ¬ ((c2 : Int) = ((i + 1 : Nat) : Int)) := by omega
    have f3 : ¬ ((c : Int) = (i : Int)) := by omega
    have t4 : (((n + 1 : Nat) : Int) - (i : Int)).toNat = n + 1 - i := by omega
    have t5 : (((n + 1 : Nat) : Int) - ((i + 1 : Nat) : Int)).toNat = n - i := by omega
    have t6 : ((n : Int) - (i : Int)).toNat = n - i := by omega
    simp only [f1, f3, t4, t6, if_false]
    refine ⟨by omega, by omega, by omega, by omega, ?_⟩
    have hsp2 : cur2.toList = ensV (es.take i) ++ (zs ++ cur2.toList.drop ((n + 1) * 4)) := by
      rw [← List.append_assoc, ← m5, List.take_append_drop]
    have hl2 : (n + 1) * 4 ≤ cur2.toList.length := by rw [Array.length_toList]; omega
    refine copy_valsT (s := 4) (cur := cur2.toList) Tryz.underlying22 Tryz.underlying22 inf26 sz26 rfl rfl (by simpa using m2) (by omega) (Ib.ext x2) (by rfl) (fun u hu => one [e] u (List.mem_of_mem_take hu)) fun h3 g3 u3 => ?_
    have e5 : (ensV [e]).take ((n + 1 - i) * 4) = enV e := by
      rw [List.take_of_length_le (by rw [ensV_length]; simp; omega)]; simp [ensV]
    rw [e5] at g3
    simp only [coreS, Value.cells, Value.oneCell', Nat.reduceAdd, Nat.reduceSub, Nat.reduceMul, Nat.reduceLeDiff, Int.reduceEq, Nat.reduceEqDiff, C1Fs68]
    refine WP_draw (by kernel_rfl) sta_eq [(0, 0), (1, 0), (2, 0), (3, 0), (4, 0), (5, 0), (6, 0), (7, 0), (8, 1)] (by kernel_rfl) rfl (by kernel_rfl) ?_
    simp only [e3n, f2, t5, f3, t6, if_false, coreS, Value.cells, Value.oneCell', Nat.reduceAdd, Nat.reduceSub, Nat.reduceMul, Nat.reduceLeDiff, Int.reduceEq, Nat.reduceEqDiff, drawS, C1Fs68]
    refine ⟨by rw [inK_i64]; omega, by omega, by omega, by omega, by omega, by omega, by omega, by omega, by omega, ?_⟩
    have hrow1 : Row h3 (some ⟨g, i * 4, none⟩) (ensV (es.drop i)) := by
      refine .inr ⟨g, i * 4, cur, 26, (0, 0), rfl, u3.get (x2.get q2) hgB, ?_, ?_⟩
      · rw [lD]; omega
      · rw [hsp, ← lA, List.drop_left, List.take_left]
    refine copy_valsT (s := 4) Tryz.underlying22 Tryz.underlying22 inf26 sz26 rfl rfl g3 (by simp [splice, enV]; omega) hrow1 lD (fun u hu => one _ u (List.mem_of_mem_take hu)) fun h4 g4 u4 => ?_
    rw [List.take_of_length_le (by omega)] at g4
    simp only [hvK_eq, coreS, Value.cells, Value.oneCell', Nat.reduceAdd, Nat.reduceSub, Nat.reduceMul, Nat.reduceLeDiff, Int.reduceEq, Nat.reduceEqDiff, drawS, C1Fs68]
    rw [hsp2, ins_new lA lD hz hi (by rfl), ← List.append_assoc (enV e), ← List.append_assoc, efin] at g4
    refine ⟨_, _, rfl, ?_, fun p hp => (by cases hp; exact h0h), fun h1 x hm => u4.ext (u3.ext (x.trans x2) (by have := x.size; omega)) (by have := x.size; omega)⟩
    have := Row.block g4
    have := this.take ((n + 1) * 4)
    rwa [List.take_append_of_le_length (by omega), List.take_of_length_le (by omega)] at this
end Go.Proofs.YtepaekbjoombpaaGreatDoor
