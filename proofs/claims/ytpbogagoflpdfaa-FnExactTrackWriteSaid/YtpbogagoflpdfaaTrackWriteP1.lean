import Derived.Test.YtpbogagoflpdfaaTrackWriteP0
import Derived.Test.YtpbogagoflpdfaaAmIg
import Derived.Test.YtpbogagoflpdfaaTrackWriteF0
import Derived.Test.YtpbogagoflpdfaaTrackWriteF1
import Derived.Test.YtpbogagoflpdfaaAmY
import Derived.Test.YtpbogagoflpdfaaAmX
namespace Go.Proofs.Ytpbogagoflpdfaa.Am
open Go
variable {E : Env}
set_option linter.unusedVariables false
def Transaction.putw (x : Transaction) (s : Store) (k v : Int) : Transaction := { x with writes := putWrite x.writes ⟨k, v⟩, low := maxI x.low (lastV (s.chain k)).reader }
def Transaction.trackW (x : Transaction) (s : Store) (k v : Int) : Transaction × Bool :=
  if s.valid && (x.valid && (decide (x.state = 1) && (inR k 0 5 && inR v (-1) 99))) then (x.putw s k v, true) else (x, false)
theorem trackW_ok {x : Transaction} (ho : x.ok) (s : Store) (k v : Int) : (x.trackW s k v).1.ok := by
  unfold Transaction.trackW
  split
  · rename_i hc
    simp only [Bool.and_eq_true] at hc
    have := (valid_rising hc.2.1).2
    have := putWrite_len x.writes ⟨k, v⟩
    exact ⟨ho.1, by simp only [Transaction.putw]; omega⟩
  · exact ho
theorem u_putw (x : Transaction) (s : Store) (k v : Int) : (x.putw s k v).u = .agg [.int .i64 x.id, .int .i64 x.scheme, .int .i64 x.state, .int .i64 x.begin_, .int .i64 (if x.low < (lastV (s.chain k)).reader then (lastV (s.chain k)).reader else x.low), .int .i64 x.high, .int .i64 x.commit, .sl 2 (x.reads.map ReadMark.u), .sl 2 ((putWrite x.writes ⟨k, v⟩).map Write.u)] := rfl
theorem f72_is (h : G_f72 E) (s : Store) (hs : s.ok) (x : Transaction) (ho : x.ok) (k v : Int) : E 335 [s.u, x.u, .int .i64 k, .int .i64 v] = some (.tup [(x.trackW s k v).1.u, .bool (x.trackW s k v).2]) := by
  rw [f72_E h]
  have hc := f75_is h.c_f75 x ho
  have hst := f68_is h.c_f68 s hs
  have hv := f69_is h.c_f69 x ho
  have hk := f73_is h.c_f73 k 0 5
  have hw := f73_is h.c_f73 v (-1) 99
  have hp := f76_is h.c_f76 x.writes ⟨k, v⟩ ho.2
  have hp' : E 336 [.sl 2 (x.writes.map Write.u), .agg [.int .i64 k, .int .i64 v]] = some (.sl 2 ((putWrite x.writes ⟨k, v⟩).map Write.u)) := hp
  have nts : ∀ K : U → Option U, U.noTup s.u K = K s.u := fun _ => rfl
  have avs : ∀ K : U → Option U, U.asVar true 1 s.u K = K s.u := fun _ => rfl
  unfold Transaction.trackW
  cases g0 : s.valid
  · simp [nts, avs, hst, hc, hv, g0]
  cases g1 : x.valid
  · simp [nts, avs, hst, hc, hv, g0, g1]
  by_cases g2 : ¬ x.state = 1
  · simp [nts, avs, hst, hc, hv, g0, g1, g2]
  replace g2 : x.state = 1 := Decidable.not_not.1 g2
  cases g3 : inR k 0 5
  · simp [nts, avs, hst, hc, hv, g0, g1, g2, hk, g3]
  cases g4 : inR v (-1) 99
  · simp [nts, avs, hst, hc, hv, g0, g1, g2, hk, g3, hw, g4]
  have hk2 : 0 ≤ k ∧ k ≤ 5 := by simpa [inR] using g3
  obtain ⟨hg, hm⟩ := chain_get g0 hk2.1 hk2.2
  have hlat := f71_is h.c_f71 (s.chain k) (hs.2 _ hm) (Store.valid_mem g0 hm).1
  have ags : ∀ K : List U → Option U, U.asAgg s.u K = K [.sl 1 (s.chains.map chainU)] := fun _ => rfl
  have avc : ∀ (l : List Version) (K : U → Option U), U.asVar false 1 (chainU l) K = K (chainU l) := fun _ _ => rfl
  simp [nts, avs, ags, hst, hc, hv, g0, g1, g2, hk, g3, hw, g4, hp', u_putw, U.size, chain_elem g0 hk2.1 hk2.2, avc, hlat]
theorem put_search (hbs : G_f62 E) (hp1 : G_f15 E) (x : Transaction) (hv : x.valid = true) (k v : Int) : ∃ p r, x.writes = p ++ r ∧ E 340 [.sl 2 (x.writes.map Write.u), .int .i64 k, .fn 339 []] = some (.tup [.int .i64 (p.length : Int), .bool (headKey r k)]) ∧
    (headKey r k = true → ∃ y r', r = y :: r' ∧ y.key = k ∧ putWrite x.writes ⟨k, v⟩ = p ++ ⟨k, v⟩ :: r') ∧ (headKey r k = false → putWrite x.writes ⟨k, v⟩ = p ++ ⟨k, v⟩ :: r) := by
  obtain ⟨h1, h2⟩ := valid_rising hv
  obtain ⟨p, r, e, hp, hr⟩ := rising_split x.writes k h1
  refine ⟨p, r, e, bs340_is hbs (fun a k => put_1_is hp1 a k) x.writes p r k (by omega) e hp hr, fun hh => ?_, fun hh => ?_⟩
  · cases r with
    | nil => simp [headKey] at hh
    | cons y r =>
      simp only [headKey, decide_eq_true_eq] at hh
      refine ⟨y, r, rfl, hh, ?_⟩
      rw [e, putWrite_app p _ _ hp]
      simp [putWrite, hh]
  · rw [e, putWrite_app p _ _ hp]
    cases r with
    | nil => rfl
    | cons y r =>
      simp only [headKey, decide_eq_false_iff_not] at hh
      simp [putWrite, hh, hr y (by simp)]
theorem f10_is (h : G_f10 E) (s : Store) (hs : s.ok) (x : Transaction) (ho : x.ok) (k v : Int) : E 334 [s.u, x.u, .int .i64 k, .int .i64 v] = some (.tup [(x.trackW s k v).1.u, .bool (x.trackW s k v).2]) := by
  have hcF := impl_copied_F_is h.c_f13 x ho
  have hst := f5_is h.c_f5 s hs
  have hv := impl_active_is h.c_f14 x ho
  have hk := f21_is h.c_f21 k
  have hw := f23_is h.c_f23 v
  have nts : ∀ K : U → Option U, U.noTup s.u K = K s.u := fun _ => rfl
  have avs : ∀ K : U → Option U, U.asVar true 1 s.u K = K s.u := fun _ => rfl
  have nt : ∀ K : U → Option U, U.noTup x.u K = K x.u := fun _ => rfl
  have av : ∀ K : U → Option U, U.asVar true 9 x.u K = K x.u := fun _ => rfl
  have ag : ∀ K : List U → Option U, U.asAgg x.u K = K [.int .i64 x.id, .int .i64 x.scheme, .int .i64 x.state, .int .i64 x.begin_, .int .i64 x.low, .int .i64 x.high, .int .i64 x.commit, .sl 2 (x.reads.map ReadMark.u), .sl 2 (x.writes.map Write.u)] := fun _ => rfl
  rw [f10_E h, nts, nt, av, hcF, Option.bind_some, nt, ag]
  show (E 112 [s.u]).bind _ = _
  rw [hst, Option.bind_some, un_not, Option.bind_some, asBool_bool]
  unfold Transaction.trackW
  cases g0 : s.valid
  · rw [if_pos (by simp)]
    rfl
  rw [if_neg (by simp), av, hv, Option.bind_some, un_not, Option.bind_some, asBool_bool]
  cases g1 : (x.valid && decide (x.state = 1))
  · have : (x.valid && (decide (x.state = 1) && (inR k 0 5 && inR v (-1) 99))) = false := by rw [← Bool.and_assoc, g1]; rfl
    rw [this, if_pos (by simp)]
    rfl
  have e1 : (x.valid && (decide (x.state = 1) && (inR k 0 5 && inR v (-1) 99))) = (inR k 0 5 && inR v (-1) 99) := by rw [← Bool.and_assoc, g1]; rfl
  rw [e1, if_neg (by simp), hk, Option.bind_some, un_not, Option.bind_some, asBool_bool]
  cases g3 : inR k 0 5
  · rw [if_pos (by simp)]
    rfl
  rw [if_neg (by simp), hw, Option.bind_some, un_not, Option.bind_some, asBool_bool]
  cases g4 : inR v (-1) 99
  · rw [if_pos (by simp)]
    rfl
  rw [if_neg (by simp), avs, nts]
  have ft : ∀ (n : Int) (b : Bool) (K : U → Option U), U.asFlat (.tup [.int .i64 n, .bool b]) K = K (.tup [.int .i64 n, .bool b]) := fun _ _ _ => rfl
  have ns : ∀ (us : List U) (K : U → Option U), U.noTup (.sl 2 us) K = K (.sl 2 us) := fun _ _ => rfl
  have st2 : ∀ n : Int, (storable (.val (.int .i64 n)) = true ∧ (U.int .i64 n).size = 1) = True := fun _ => eq_true ⟨rfl, rfl⟩
  have pt2 : ∀ n : Int, (partable (.val (.int .i64 n)) = true ∧ (U.int .i64 n).size = 1) = True := fun _ => eq_true ⟨rfl, rfl⟩
  have pt3 : ∀ n m : Int, (partable (.val (.agg [.int .i64 n, .int .i64 m])) = true ∧ (U.agg [.int .i64 n, .int .i64 m]).size = 2) = True := fun _ _ => eq_true ⟨rfl, rfl⟩
  have g1' : x.valid = true := by cases g : x.valid; rw [g] at g1; cases g1; rfl
  have hk2 : 0 ≤ k ∧ k ≤ 5 := by simpa [inR] using g3
  have hlat := impl_latest_is h.c_f9 s g0 k hk2.1 hk2.2 hs
  obtain ⟨p, r, e, hb, ht, hf⟩ := put_search h.c_f62 h.c_f15 x g1' k v
  have hwl := (valid_rising g1').2
  have hcl : E 100225 [.sl 2 (x.writes.map Write.u)] = some (.sl 2 (x.writes.map Write.u)) := clone_F_is h.c_f64 (x.writes.map Write.u) (by simp; omega) (flatsW _)
  have hpl : p.length ≤ x.writes.length := by rw [e]; simp
  cases g5 : headKey r k with
  | true =>
    obtain ⟨y, r', rfl, hy, hput⟩ := ht g5
    rw [g5] at hb
    have hlt : p.length < x.writes.length := by rw [e]; simp
    have hget : x.writes[p.length] = y := by simp [e]
    have hset : (x.writes.map Write.u).set p.length (.agg [.int .i64 y.key, .int .i64 v]) = (p ++ ⟨k, v⟩ :: r').map Write.u := by rw [e, hy]; simp [Write.u]
    have hlast : (x.putw s k v).u = .agg [.int .i64 x.id, .int .i64 x.scheme, .int .i64 x.state, .int .i64 x.begin_, .int .i64 (if x.low < (lastV (s.chain k)).reader then (lastV (s.chain k)).reader else x.low), .int .i64 x.high, .int .i64 x.commit, .sl 2 (x.reads.map ReadMark.u), .sl 2 ((x.writes.map Write.u).set p.length (.agg [.int .i64 y.key, .int .i64 v]))] := by rw [hset, ← hput]; rfl
    show _ = some (U.tup [(x.putw s k v).u, .bool true])
    rw [hlast]
    rw [hb, Option.bind_some, ft, part_tup, List.getElem?_cons_zero, Option.bind_some, part_tup, List.getElem?_cons_succ, List.getElem?_cons_zero, Option.bind_some, hcl, Option.bind_some, ns, asSlK_sl, asBool_bool, if_pos rfl, asInt_int]
    rw [if_pos ⟨rfl, by omega, by simp; omega⟩, if_pos ⟨rfl, rfl⟩]
    have hg2 : (x.writes.map Write.u)[((p.length : Nat) : Int).toNat]? = some y.u := by simp [hlt, hget]
    rw [hg2, Option.bind_some, Write.u_agg]
    show (E 230 [s.u, .int .i64 k]).bind _ = _
    rw [hlat, Option.bind_some, asVp_vp, Version.u_at3, asVar_int, asInt_int, Int.toNat_natCast]
    rfl
  | false =>
    have hput := hf g5
    rw [g5] at hb
    have hi : ∀ us, E (300000 + 338) us = insC 2 16 us := h.c_slices_Insert_g338.c
    have hins : E 300338 (.agg [.tup [.sl 2 (x.writes.map Write.u)]] :: [.int .i64 (p.length : Int), .sl 2 [.agg [.int .i64 k, .int .i64 v]]]) = some (.sl 2 ((putWrite x.writes ⟨k, v⟩).map Write.u)) := by
      have := hi (.agg [.tup [.sl 2 (x.writes.map Write.u)]] :: [.int .i64 (p.length : Int), .sl 2 [.agg [.int .i64 k, .int .i64 v]]])
      rw [this]
      simp only [insC]
      rw [if_pos (by refine ⟨by trivial, by trivial, by omega, by simp; omega, by simp, rfl, ?_⟩; refine big16 _ ?_; simp; omega), hput]
      rw [e]
      simp [Write.u]
    show _ = some (U.tup [(x.putw s k v).u, .bool true])
    rw [u_putw]
    rw [hb, Option.bind_some, ft, part_tup, List.getElem?_cons_zero, Option.bind_some, part_tup, List.getElem?_cons_succ, List.getElem?_cons_zero, Option.bind_some, hcl, Option.bind_some, ns, asSlK_sl, asBool_bool, if_neg (by simp), if_pos ⟨rfl, rfl⟩, if_pos ⟨rfl, rfl⟩, if_pos ⟨rfl, rfl⟩, hins, Option.bind_some, asSlK_sl, avs, hlat, Option.bind_some, asVp_vp, Version.u_at3, asVar_int, asInt_int]
    rfl
theorem f11_is (h : G_f11 E) (s : Store) (hs : s.ok) (x : Transaction) (ho : x.ok) (k v : Int) : E 100334 [s.u, x.u, .int .i64 k, .int .i64 v] = some (.tup [(x.trackW s k v).1.u, .bool (x.trackW s k v).2]) := by
  have hcF := impl_copied_F_is h.c_f13 x ho
  have hst := f5_is h.c_f5 s hs
  have hv := impl_active_is h.c_f14 x ho
  have hk := f21_is h.c_f21 k
  have hw := f23_is h.c_f23 v
  have nts : ∀ K : U → Option U, U.noTup s.u K = K s.u := fun _ => rfl
  have avs : ∀ K : U → Option U, U.asVar true 1 s.u K = K s.u := fun _ => rfl
  have nt : ∀ K : U → Option U, U.noTup x.u K = K x.u := fun _ => rfl
  have av : ∀ K : U → Option U, U.asVar true 9 x.u K = K x.u := fun _ => rfl
  have ag : ∀ K : List U → Option U, U.asAgg x.u K = K [.int .i64 x.id, .int .i64 x.scheme, .int .i64 x.state, .int .i64 x.begin_, .int .i64 x.low, .int .i64 x.high, .int .i64 x.commit, .sl 2 (x.reads.map ReadMark.u), .sl 2 (x.writes.map Write.u)] := fun _ => rfl
  rw [f11_E h, nts, nt, av, hcF, Option.bind_some, nt, ag]
  show (E 112 [s.u]).bind _ = _
  rw [hst, Option.bind_some, un_not, Option.bind_some, asBool_bool]
  unfold Transaction.trackW
  cases g0 : s.valid
  · rw [if_pos (by simp)]
    rfl
  rw [if_neg (by simp), av, hv, Option.bind_some, un_not, Option.bind_some, asBool_bool]
  cases g1 : (x.valid && decide (x.state = 1))
  · have : (x.valid && (decide (x.state = 1) && (inR k 0 5 && inR v (-1) 99))) = false := by rw [← Bool.and_assoc, g1]; rfl
    rw [this, if_pos (by simp)]
    rfl
  have e1 : (x.valid && (decide (x.state = 1) && (inR k 0 5 && inR v (-1) 99))) = (inR k 0 5 && inR v (-1) 99) := by rw [← Bool.and_assoc, g1]; rfl
  rw [e1, if_neg (by simp), hk, Option.bind_some, un_not, Option.bind_some, asBool_bool]
  cases g3 : inR k 0 5
  · rw [if_pos (by simp)]
    rfl
  rw [if_neg (by simp), hw, Option.bind_some, un_not, Option.bind_some, asBool_bool]
  cases g4 : inR v (-1) 99
  · rw [if_pos (by simp)]
    rfl
  rw [if_neg (by simp), avs, nts]
  have ft : ∀ (n : Int) (b : Bool) (K : U → Option U), U.asFlat (.tup [.int .i64 n, .bool b]) K = K (.tup [.int .i64 n, .bool b]) := fun _ _ _ => rfl
  have ns : ∀ (us : List U) (K : U → Option U), U.noTup (.sl 2 us) K = K (.sl 2 us) := fun _ _ => rfl
  have st2 : ∀ n : Int, (storable (.val (.int .i64 n)) = true ∧ (U.int .i64 n).size = 1) = True := fun _ => eq_true ⟨rfl, rfl⟩
  have pt2 : ∀ n : Int, (partable (.val (.int .i64 n)) = true ∧ (U.int .i64 n).size = 1) = True := fun _ => eq_true ⟨rfl, rfl⟩
  have pt3 : ∀ n m : Int, (partable (.val (.agg [.int .i64 n, .int .i64 m])) = true ∧ (U.agg [.int .i64 n, .int .i64 m]).size = 2) = True := fun _ _ => eq_true ⟨rfl, rfl⟩
  have g1' : x.valid = true := by cases g : x.valid; rw [g] at g1; cases g1; rfl
  have hk2 : 0 ≤ k ∧ k ≤ 5 := by simpa [inR] using g3
  have hlat := impl_latest_is h.c_f9 s g0 k hk2.1 hk2.2 hs
  obtain ⟨p, r, e, hb, ht, hf⟩ := put_search h.c_f62 h.c_f15 x g1' k v
  have hwl := (valid_rising g1').2
  have hcl : E 100225 [.sl 2 (x.writes.map Write.u)] = some (.sl 2 (x.writes.map Write.u)) := clone_F_is h.c_f64 (x.writes.map Write.u) (by simp; omega) (flatsW _)
  have hpl : p.length ≤ x.writes.length := by rw [e]; simp
  cases g5 : headKey r k with
  | true =>
    obtain ⟨y, r', rfl, hy, hput⟩ := ht g5
    rw [g5] at hb
    have hlt : p.length < x.writes.length := by rw [e]; simp
    have hget : x.writes[p.length] = y := by simp [e]
    have hset : (x.writes.map Write.u).set p.length (.agg [.int .i64 y.key, .int .i64 v]) = (p ++ ⟨k, v⟩ :: r').map Write.u := by rw [e, hy]; simp [Write.u]
    have hlast : (x.putw s k v).u = .agg [.int .i64 x.id, .int .i64 x.scheme, .int .i64 x.state, .int .i64 x.begin_, .int .i64 (if x.low < (lastV (s.chain k)).reader then (lastV (s.chain k)).reader else x.low), .int .i64 x.high, .int .i64 x.commit, .sl 2 (x.reads.map ReadMark.u), .sl 2 ((x.writes.map Write.u).set p.length (.agg [.int .i64 y.key, .int .i64 v]))] := by rw [hset, ← hput]; rfl
    show _ = some (U.tup [(x.putw s k v).u, .bool true])
    rw [hlast]
    rw [hb, Option.bind_some, ft, part_tup, List.getElem?_cons_zero, Option.bind_some, part_tup, List.getElem?_cons_succ, List.getElem?_cons_zero, Option.bind_some, hcl, Option.bind_some, ns, asSlK_sl, asBool_bool, if_pos rfl, asInt_int]
    rw [if_pos ⟨rfl, by omega, by simp; omega⟩, if_pos ⟨rfl, rfl⟩]
    have hg2 : (x.writes.map Write.u)[((p.length : Nat) : Int).toNat]? = some y.u := by simp [hlt, hget]
    rw [hg2, Option.bind_some, Write.u_agg]
    show (E 230 [s.u, .int .i64 k]).bind _ = _
    rw [hlat, Option.bind_some, asVp_vp, Version.u_at3, asVar_int, asInt_int, Int.toNat_natCast]
    rfl
  | false =>
    have hput := hf g5
    rw [g5] at hb
    have hi : ∀ us, E (300000 + 338) us = insC 2 16 us := h.c_slices_Insert_g338.c
    have hins : E 300338 (.agg [.tup [.sl 2 (x.writes.map Write.u)]] :: [.int .i64 (p.length : Int), .sl 2 [.agg [.int .i64 k, .int .i64 v]]]) = some (.sl 2 ((putWrite x.writes ⟨k, v⟩).map Write.u)) := by
      have := hi (.agg [.tup [.sl 2 (x.writes.map Write.u)]] :: [.int .i64 (p.length : Int), .sl 2 [.agg [.int .i64 k, .int .i64 v]]])
      rw [this]
      simp only [insC]
      rw [if_pos (by refine ⟨by trivial, by trivial, by omega, by simp; omega, by simp, rfl, ?_⟩; refine big16 _ ?_; simp; omega), hput]
      rw [e]
      simp [Write.u]
    show _ = some (U.tup [(x.putw s k v).u, .bool true])
    rw [u_putw]
    rw [hb, Option.bind_some, ft, part_tup, List.getElem?_cons_zero, Option.bind_some, part_tup, List.getElem?_cons_succ, List.getElem?_cons_zero, Option.bind_some, hcl, Option.bind_some, ns, asSlK_sl, asBool_bool, if_neg (by simp), if_pos ⟨rfl, rfl⟩, if_pos ⟨rfl, rfl⟩, if_pos ⟨rfl, rfl⟩, hins, Option.bind_some, asSlK_sl, avs, hlat, Option.bind_some, asVp_vp, Version.u_at3, asVar_int, asInt_int]
    rfl
theorem f47_is (h : G_f47 E) (x : ReadMark) : E 29 [x.u] = some x.u := by
  rw [f47_E h]
  simp [ReadMark.u]
theorem f48_l0_is (h : G_f48 E) (l : List ReadMark) (hl : l.length ≤ 1048576) : ∀ (r p : List ReadMark) (i : Int) (c : List U), l = p ++ r → i = p.length → c.length = r.length → (∀ z ∈ c, z.size = 2) →
    f48_l0 E (.sl 2 (l.map ReadMark.u)) (.int .i64 i) (p.map ReadMark.u ++ c) = some (.sl 2 (l.map ReadMark.u))
  | [], p, i, c, e, hi, hc, _ => by
    obtain rfl : c = [] := List.length_eq_zero_iff.1 hc
    rw [f48_l0_eq]
    simp [mid_end e hi]
    simp [e]
  | x :: r, p, i, [], e, hi, hc, _ => by cases hc
  | x :: r, p, i, z :: c, e, hi, hc, hz => by
    obtain ⟨h0, hlt, hx, hw, hn, _⟩ := mid_at e hi (by omega)
    have hzs : z.size = 2 := hz z (by simp)
    obtain ⟨hg, hs, hlen⟩ := mid_set ReadMark.u p z c hi
    have ih := f48_l0_is h l hl r (p ++ [x]) (i + 1) c (mid_next e) hn (by simpa using hc) (fun y hy => hz y (by simp [hy]))
    simp only [List.map_append, List.map_cons, List.map_nil, List.append_assoc, List.cons_append, List.nil_append] at ih
    rw [f48_l0_eq]
    simp only [hg, hs, hx, hw, asInt_int, bin_lss, lenOf_sl, List.length_map, Option.bind_some, asBool_bool, hlt, decide_true, if_true, h0, hlen, and_self, bin_add, f47_is h.c_f47 x, hzs, ReadMark.u_var, ReadMark.u_size, ReadMark.u_storable, ReadMark.u_partable]
    simpa using ih
theorem f48_is (h : G_f48 E) (l : List ReadMark) (hl : l.length ≤ 1048576) : E 28 [.sl 2 (l.map ReadMark.u)] = some (.sl 2 (l.map ReadMark.u)) := by
  have h1 := f48_l0_is h l hl l [] 0 (List.replicate l.length (.agg [.int .i64 0, .int .i64 0])) rfl rfl (by simp) (by simp)
  rw [f48_E h]
  simp only [lenOf_sl, Option.bind_some, List.length_map]
  rw [if_pos (by refine ⟨by omega, by omega, by omega, rfl⟩)]
  simpa using h1
theorem f25_is (h : G_f25 E) (x y : ReadMark) : E 35 [x.u, y.u] = some (.bool (decide (x = y))) := by
  rw [f25_E h]
  obtain ⟨a0, a1⟩ := x
  obtain ⟨b0, b1⟩ := y
  simp only [ReadMark.mk.injEq]
  by_cases h0 : a0 = b0
  case neg => simp [h0]
  subst h0
  by_cases h1 : a1 = b1
  case neg => simp [h1]
  subst h1
  simp []
theorem f26_l0_is (h : G_f26 E) (a b : List ReadMark) (ha : a.length ≤ 1048576) (hb : b.length ≤ 1048576) : ∀ (r s p p2 : List ReadMark) (i : Int), a = p ++ r → b = p2 ++ s → i = p.length → i = p2.length → r.length = s.length →
    f26_l0 E (.sl 2 (a.map ReadMark.u)) (.sl 2 (b.map ReadMark.u)) (.int .i64 i) = some (.bool (decide (r = s)))
  | [], [], p, p2, i, e, e2, hi, hi2, _ => by
    rw [f26_l0_eq]
    simp [mid_end e hi]
  | [], y :: s, _, _, _, _, _, _, _, hl => by cases hl
  | x :: r, [], _, _, _, _, _, _, _, hl => by cases hl
  | x :: r, y :: s, p, p2, i, e, e2, hi, hi2, hl => by
    obtain ⟨h0, hlt, hx, hw, hn, _⟩ := mid_at e hi (by omega)
    obtain ⟨_, _, hy, _, hn2, _⟩ := mid_at e2 hi2 (by omega)
    have ih := f26_l0_is h a b ha hb r s (p ++ [x]) (p2 ++ [y]) (i + 1) (mid_next e) (mid_next e2) hn hn2 (by simpa using hl)
    rw [f26_l0_eq]
    by_cases hxy : x = y
    · subst hxy
      simp [hlt, hx, hy, hw, ih, f25_is h.c_f25]
    · simp [hlt, hx, hy, hw, ih, f25_is h.c_f25, hxy]
theorem f26_is (h : G_f26 E) (a b : List ReadMark) (ha : a.length ≤ 1048576) (hb : b.length ≤ 1048576) : E 34 [.sl 2 (a.map ReadMark.u), .sl 2 (b.map ReadMark.u)] = some (.bool (decide (a = b))) := by
  rw [f26_E h]
  by_cases hl : a.length = b.length
  · simp [hl, f26_l0_is h a b ha hb a b [] [] 0 rfl rfl rfl rfl hl]
  · have h1 : a ≠ b := fun e => hl (by rw [e])
    have h2 : (a.length : Int) ≠ b.length := by omega
    simp [h1, h2]
theorem f41_is (h : G_f41 E) (l : List ReadMark) (hl : l.length ≤ maxLen) (left : Int) (h0 : 0 ≤ left) (h1 : left ≤ 1048576) : E 24 [.sl 2 (l.map ReadMark.u), .int .i64 left] = some (.int .i64 (szc l.length left)) := by
  rw [f41_E h]
  unfold maxLen at hl
  have hw : IntKind.i64.wrap (left - (l.length : Int)) = left - l.length := wrap_in (by omega)
  by_cases h2 : left - (l.length : Int) < 0 <;> simp [hw, szc, h2]
theorem f59_is (h : G_f59 E) (x : Write) : E 30 [x.u] = some x.u := by
  rw [f59_E h]
  simp [Write.u]
theorem f60_l0_is (h : G_f60 E) (l : List Write) (hl : l.length ≤ 1048576) : ∀ (r p : List Write) (i : Int) (c : List U), l = p ++ r → i = p.length → c.length = r.length → (∀ z ∈ c, z.size = 2) →
    f60_l0 E (.sl 2 (l.map Write.u)) (.int .i64 i) (p.map Write.u ++ c) = some (.sl 2 (l.map Write.u))
  | [], p, i, c, e, hi, hc, _ => by
    obtain rfl : c = [] := List.length_eq_zero_iff.1 hc
    rw [f60_l0_eq]
    simp [mid_end e hi]
    simp [e]
  | x :: r, p, i, [], e, hi, hc, _ => by cases hc
  | x :: r, p, i, z :: c, e, hi, hc, hz => by
    obtain ⟨h0, hlt, hx, hw, hn, _⟩ := mid_at e hi (by omega)
    have hzs : z.size = 2 := hz z (by simp)
    obtain ⟨hg, hs, hlen⟩ := mid_set Write.u p z c hi
    have ih := f60_l0_is h l hl r (p ++ [x]) (i + 1) c (mid_next e) hn (by simpa using hc) (fun y hy => hz y (by simp [hy]))
    simp only [List.map_append, List.map_cons, List.map_nil, List.append_assoc, List.cons_append, List.nil_append] at ih
    rw [f60_l0_eq]
    simp only [hg, hs, hx, hw, asInt_int, bin_lss, lenOf_sl, List.length_map, Option.bind_some, asBool_bool, hlt, decide_true, if_true, h0, hlen, and_self, bin_add, f59_is h.c_f59 x, hzs, Write.u_var, Write.u_size, Write.u_storable, Write.u_partable]
    simpa using ih
theorem f60_is (h : G_f60 E) (l : List Write) (hl : l.length ≤ 1048576) : E 27 [.sl 2 (l.map Write.u)] = some (.sl 2 (l.map Write.u)) := by
  have h1 := f60_l0_is h l hl l [] 0 (List.replicate l.length (.agg [.int .i64 0, .int .i64 0])) rfl rfl (by simp) (by simp)
  rw [f60_E h]
  simp only [lenOf_sl, Option.bind_some, List.length_map]
  rw [if_pos (by refine ⟨by omega, by omega, by omega, rfl⟩)]
  simpa using h1
theorem f32_is (h : G_f32 E) (x y : Write) : E 36 [x.u, y.u] = some (.bool (decide (x = y))) := by
  rw [f32_E h]
  obtain ⟨a0, a1⟩ := x
  obtain ⟨b0, b1⟩ := y
  simp only [Write.mk.injEq]
  by_cases h0 : a0 = b0
  case neg => simp [h0]
  subst h0
  by_cases h1 : a1 = b1
  case neg => simp [h1]
  subst h1
  simp []
theorem f33_l0_is (h : G_f33 E) (a b : List Write) (ha : a.length ≤ 1048576) (hb : b.length ≤ 1048576) : ∀ (r s p p2 : List Write) (i : Int), a = p ++ r → b = p2 ++ s → i = p.length → i = p2.length → r.length = s.length →
    f33_l0 E (.sl 2 (a.map Write.u)) (.sl 2 (b.map Write.u)) (.int .i64 i) = some (.bool (decide (r = s)))
  | [], [], p, p2, i, e, e2, hi, hi2, _ => by
    rw [f33_l0_eq]
    simp [mid_end e hi]
  | [], y :: s, _, _, _, _, _, _, _, hl => by cases hl
  | x :: r, [], _, _, _, _, _, _, _, hl => by cases hl
  | x :: r, y :: s, p, p2, i, e, e2, hi, hi2, hl => by
    obtain ⟨h0, hlt, hx, hw, hn, _⟩ := mid_at e hi (by omega)
    obtain ⟨_, _, hy, _, hn2, _⟩ := mid_at e2 hi2 (by omega)
    have ih := f33_l0_is h a b ha hb r s (p ++ [x]) (p2 ++ [y]) (i + 1) (mid_next e) (mid_next e2) hn hn2 (by simpa using hl)
    rw [f33_l0_eq]
    by_cases hxy : x = y
    · subst hxy
      simp [hlt, hx, hy, hw, ih, f32_is h.c_f32]
    · simp [hlt, hx, hy, hw, ih, f32_is h.c_f32, hxy]
theorem f33_is (h : G_f33 E) (a b : List Write) (ha : a.length ≤ 1048576) (hb : b.length ≤ 1048576) : E 33 [.sl 2 (a.map Write.u), .sl 2 (b.map Write.u)] = some (.bool (decide (a = b))) := by
  rw [f33_E h]
  by_cases hl : a.length = b.length
  · simp [hl, f33_l0_is h a b ha hb a b [] [] 0 rfl rfl rfl rfl hl]
  · have h1 : a ≠ b := fun e => hl (by rw [e])
    have h2 : (a.length : Int) ≠ b.length := by omega
    simp [h1, h2]
theorem f46_is (h : G_f46 E) (l : List Write) (hl : l.length ≤ maxLen) (left : Int) (h0 : 0 ≤ left) (h1 : left ≤ 1048576) : E 23 [.sl 2 (l.map Write.u), .int .i64 left] = some (.int .i64 (szc l.length left)) := by
  rw [f46_E h]
  unfold maxLen at hl
  have hw : IntKind.i64.wrap (left - (l.length : Int)) = left - l.length := wrap_in (by omega)
  by_cases h2 : left - (l.length : Int) < 0 <;> simp [hw, szc, h2]
theorem f43_is (h : G_f43 E) (x : Transaction) (hf : x.fit) (left : Int) (h0 : 0 ≤ left) (h1 : left ≤ 1048576) : E 132 [x.u, .int .i64 left] = some (.int .i64 (x.sz left)) := by
  rw [f43_E h]
  obtain ⟨hf1, hf2⟩ := hf
  have a1 := f41_is h.c_f41 x.reads hf1 left h0 h1
  rcases szc_szs x.reads.length left h0 h1 with h2 | ⟨_, h3, h4⟩
  · simp [a1, Transaction.sz, h2]
  · have h5 : ¬ szc x.reads.length left < 0 := by omega
    have a2 := f46_is h.c_f46 x.writes hf2 _ h3 (by omega)
    by_cases h6 : szc x.writes.length (szc x.reads.length left) < 0
    · have h7 : szc x.writes.length (szc x.reads.length left) = -1 := szc_neg h6
      simp [a1, a2, Transaction.sz, h5, h7]
    · simp [a1, a2, Transaction.sz, h5, h6]
theorem f52_is (h : G_f52 E) (x : Transaction) (ho : x.ok) : E 145 [x.u] = some x.u := by
  rw [f52_E h]
  simp [Transaction.u, f48_is h.c_f48 x.reads ho.1, f60_is h.c_f60 x.writes ho.2]
theorem f28_is (h : G_f28 E) (x y : Transaction) (hx : x.ok) (hy : y.ok) : E 177 [x.u, y.u] = some (.bool (decide (x = y))) := by
  rw [f28_E h]
  obtain ⟨a0, a1, a2, a3, a4, a5, a6, a7, a8⟩ := x
  obtain ⟨b0, b1, b2, b3, b4, b5, b6, b7, b8⟩ := y
  simp only [Transaction.mk.injEq]
  by_cases h0 : a0 = b0
  case neg => simp [f26_is h.c_f26 a7 b7 hx.1 hy.1, f33_is h.c_f33 a8 b8 hx.2 hy.2, h0]
  subst h0
  by_cases h1 : a1 = b1
  case neg => simp [f26_is h.c_f26 a7 b7 hx.1 hy.1, f33_is h.c_f33 a8 b8 hx.2 hy.2, h1]
  subst h1
  by_cases h2 : a2 = b2
  case neg => simp [f26_is h.c_f26 a7 b7 hx.1 hy.1, f33_is h.c_f33 a8 b8 hx.2 hy.2, h2]
  subst h2
  by_cases h3 : a3 = b3
  case neg => simp [f26_is h.c_f26 a7 b7 hx.1 hy.1, f33_is h.c_f33 a8 b8 hx.2 hy.2, h3]
  subst h3
  by_cases h4 : a4 = b4
  case neg => simp [f26_is h.c_f26 a7 b7 hx.1 hy.1, f33_is h.c_f33 a8 b8 hx.2 hy.2, h4]
  subst h4
  by_cases h5 : a5 = b5
  case neg => simp [f26_is h.c_f26 a7 b7 hx.1 hy.1, f33_is h.c_f33 a8 b8 hx.2 hy.2, h5]
  subst h5
  by_cases h6 : a6 = b6
  case neg => simp [f26_is h.c_f26 a7 b7 hx.1 hy.1, f33_is h.c_f33 a8 b8 hx.2 hy.2, h6]
  subst h6
  by_cases h7 : a7 = b7
  case neg => simp [f26_is h.c_f26 a7 b7 hx.1 hy.1, f33_is h.c_f33 a8 b8 hx.2 hy.2, h7]
  subst h7
  by_cases h8 : a8 = b8
  case neg => simp [f26_is h.c_f26 a7 a7 hx.1 hy.1, f33_is h.c_f33 a8 b8 hx.2 hy.2, h8]
  subst h8
  simp [f26_is h.c_f26 a7 a7 hx.1 hy.1, f33_is h.c_f33 a8 a8 hx.2 hy.2]
def upReadMark : Int → Nat → List ReadMark
  | _, 0 => []
  | k, n + 1 => ⟨k, k + 1⟩ :: upReadMark (k + 2) n
theorem upReadMark_length : ∀ (n : Nat) (k : Int), (upReadMark k n).length = n
  | 0, _ => rfl
  | n + 1, k => by simp [upReadMark, upReadMark_length n]
theorem flats_ReadMark (l : List ReadMark) : U.flat.flats (l.map ReadMark.u) = true := flats_map _ (fun _ => rfl) l
theorem f37_l0_is (h : G_f37 E) : ∀ (r p : List ReadMark) (k i : Int), i = p.length → p.length + r.length ≤ 1048576 → 0 ≤ k → k + 2 * r.length ≤ 1099511627776 →
    f37_l0 E (.int .i64 k) (.int .i64 i) (p.map ReadMark.u ++ r.map ReadMark.u) = some (.tup [.int .i64 (k + 2 * r.length), .sl 2 (p.map ReadMark.u ++ (upReadMark k r.length).map ReadMark.u)])
  | [], p, k, i, hi, hb, hk, hk2 => by
    have h1 : ¬ i < ((p.map ReadMark.u ++ ([] : List ReadMark).map ReadMark.u).length : Int) := by simp [hi]
    rw [f37_l0_eq]
    simp only [bin_lss, h1, decide_false, Option.bind_some, asBool_bool, Bool.false_eq_true, if_false]
    rw [← List.map_append]
    simp [upReadMark, flats_ReadMark]
  | x :: r, p, k, i, hi, hb, hk, hk2 => by
    simp only [List.length_cons] at hb hk2
    have hm := fun z => mid_set ReadMark.u p z (r.map ReadMark.u) hi
    have hg := fun z => (hm z).1
    have hs := fun z => (hm z).2.1
    have hlen := fun z => (hm z).2.2
    have h0 : 0 ≤ i := by omega
    have hw0 : IntKind.i64.wrap (k + 1) = k + 1 := by rw [wrap_in (by omega)]
    have hw1 : IntKind.i64.wrap (k + 1 + 1) = k + 2 := by rw [wrap_in (by omega)]; omega
    have hwi : IntKind.i64.wrap (i + 1) = i + 1 := wrap_in (by omega)
    have ih := f37_l0_is h r (p ++ [⟨k, k + 1⟩]) (k + 2) (i + 1) (by simp [hi]) (by simp; omega) (by omega) (by omega)
    simp only [List.map_append, List.map_cons, List.map_nil, List.append_assoc, List.cons_append, List.nil_append] at ih
    rw [f37_l0_eq]
    simp only [List.map_cons, bin_lss, hlen, decide_true, Option.bind_some, asBool_bool, if_true, asInt_int, h0, and_self, storable_int, size_int, flat_int, hg, hs, ReadMark.u_agg, asAgg_agg, List.take_zero, List.take_succ_cons, sizes_cons, sizes_nil, Nat.add_zero, Nat.zero_add, List.getElem?_cons_zero, List.getElem?_cons_succ, List.set_cons_zero, List.set_cons_succ, bin_add, hw0, hw1, hwi, Nat.reduceAdd]
    have e : k + 2 + 2 * (r.length : Int) = k + 2 * ((r.length + 1 : Nat) : Int) := by omega
    rw [e] at ih
    simpa [upReadMark, ReadMark.u] using ih
theorem f37_is (h : G_f37 E) (l : List ReadMark) (hl : l.length ≤ 1048576) (k : Int) (hk : 0 ≤ k) (hk2 : k ≤ 1073741824) :
    E 200095 (.agg [.tup [.sl 2 (l.map ReadMark.u)]] :: [.int .i64 k]) = some (.tup [.int .i64 (k + 2 * l.length), .sl 2 ((upReadMark k l.length).map ReadMark.u)]) := by
  rw [f37_E h]
  exact f37_l0_is h l [] k 0 rfl (by simpa using hl) hk (by omega)
theorem f34_l0_is (h : G_f34 E) (l : List ReadMark) (hl : l.length ≤ 1048576) : ∀ (n : Nat) (p : List ReadMark) (k i : Int), l = p ++ upReadMark k n → i = p.length → 0 ≤ k → k + 2 * n ≤ 1099511627776 →
    f34_l0 E (.sl 2 (l.map ReadMark.u)) (.int .i64 k) (.int .i64 i) = some (.int .i64 (k + 2 * n))
  | 0, p, k, i, e, hi, hk, hk2 => by
    rw [f34_l0_eq]
    simp [mid_end e hi]
  | n + 1, p, k, i, e0, hi, hk, hk2 => by
    have e : l = p ++ (⟨k, k + 1⟩ : ReadMark) :: upReadMark (k + 2) n := e0
    obtain ⟨h0, hlt, hx, hw, hn, _⟩ := mid_at e hi (by omega)
    have hw0 : IntKind.i64.wrap (k + 1) = k + 1 := by rw [wrap_in (by omega)]
    have hw1 : IntKind.i64.wrap (k + 1 + 1) = k + 2 := by rw [wrap_in (by omega)]; omega
    have ih := f34_l0_is h l hl n (p ++ [⟨k, k + 1⟩]) (k + 2) (i + 1) (mid_next e) hn (by omega) (by omega)
    have e2 : k + 2 + 2 * (n : Int) = k + 2 * ((n + 1 : Nat) : Int) := by omega
    rw [e2] at ih
    rw [f34_l0_eq]
    simp only [lenOf_sl, List.length_map, Option.bind_some, bin_lss, hlt, decide_true, asBool_bool, if_true, asInt_int, hx, ReadMark.u_at0, ReadMark.u_at1, asVar_int, bin_neq, ne_eq, not_true_eq_false, decide_false, Bool.false_eq_true, if_false, bin_add, hw, hw0, hw1]
    exact ih
theorem f34_is (h : G_f34 E) (n : Nat) (hn : n ≤ 1048576) (k : Int) (hk : 0 ≤ k) (hk2 : k ≤ 1048576) : E 92 [.sl 2 ((upReadMark k n).map ReadMark.u), .int .i64 k] = some (.int .i64 (k + 2 * n)) := by
  rw [f34_E h]
  exact f34_l0_is h _ (by rw [upReadMark_length]; exact hn) n [] k 0 rfl rfl hk (by omega)
def upWrite : Int → Nat → List Write
  | _, 0 => []
  | k, n + 1 => ⟨k, k + 1⟩ :: upWrite (k + 2) n
theorem upWrite_length : ∀ (n : Nat) (k : Int), (upWrite k n).length = n
  | 0, _ => rfl
  | n + 1, k => by simp [upWrite, upWrite_length n]
theorem flats_Write (l : List Write) : U.flat.flats (l.map Write.u) = true := flats_map _ (fun _ => rfl) l
theorem f40_l0_is (h : G_f40 E) : ∀ (r p : List Write) (k i : Int), i = p.length → p.length + r.length ≤ 1048576 → 0 ≤ k → k + 2 * r.length ≤ 1099511627776 →
    f40_l0 E (.int .i64 k) (.int .i64 i) (p.map Write.u ++ r.map Write.u) = some (.tup [.int .i64 (k + 2 * r.length), .sl 2 (p.map Write.u ++ (upWrite k r.length).map Write.u)])
  | [], p, k, i, hi, hb, hk, hk2 => by
    have h1 : ¬ i < ((p.map Write.u ++ ([] : List Write).map Write.u).length : Int) := by simp [hi]
    rw [f40_l0_eq]
    simp only [bin_lss, h1, decide_false, Option.bind_some, asBool_bool, Bool.false_eq_true, if_false]
    rw [← List.map_append]
    simp [upWrite, flats_Write]
  | x :: r, p, k, i, hi, hb, hk, hk2 => by
    simp only [List.length_cons] at hb hk2
    have hm := fun z => mid_set Write.u p z (r.map Write.u) hi
    have hg := fun z => (hm z).1
    have hs := fun z => (hm z).2.1
    have hlen := fun z => (hm z).2.2
    have h0 : 0 ≤ i := by omega
    have hw0 : IntKind.i64.wrap (k + 1) = k + 1 := by rw [wrap_in (by omega)]
    have hw1 : IntKind.i64.wrap (k + 1 + 1) = k + 2 := by rw [wrap_in (by omega)]; omega
    have hwi : IntKind.i64.wrap (i + 1) = i + 1 := wrap_in (by omega)
    have ih := f40_l0_is h r (p ++ [⟨k, k + 1⟩]) (k + 2) (i + 1) (by simp [hi]) (by simp; omega) (by omega) (by omega)
    simp only [List.map_append, List.map_cons, List.map_nil, List.append_assoc, List.cons_append, List.nil_append] at ih
    rw [f40_l0_eq]
    simp only [List.map_cons, bin_lss, hlen, decide_true, Option.bind_some, asBool_bool, if_true, asInt_int, h0, and_self, storable_int, size_int, flat_int, hg, hs, Write.u_agg, asAgg_agg, List.take_zero, List.take_succ_cons, sizes_cons, sizes_nil, Nat.add_zero, Nat.zero_add, List.getElem?_cons_zero, List.getElem?_cons_succ, List.set_cons_zero, List.set_cons_succ, bin_add, hw0, hw1, hwi, Nat.reduceAdd]
    have e : k + 2 + 2 * (r.length : Int) = k + 2 * ((r.length + 1 : Nat) : Int) := by omega
    rw [e] at ih
    simpa [upWrite, Write.u] using ih
theorem f40_is (h : G_f40 E) (l : List Write) (hl : l.length ≤ 1048576) (k : Int) (hk : 0 ≤ k) (hk2 : k ≤ 1073741824) :
    E 200232 (.agg [.tup [.sl 2 (l.map Write.u)]] :: [.int .i64 k]) = some (.tup [.int .i64 (k + 2 * l.length), .sl 2 ((upWrite k l.length).map Write.u)]) := by
  rw [f40_E h]
  exact f40_l0_is h l [] k 0 rfl (by simpa using hl) hk (by omega)
theorem f49_l0_is (h : G_f49 E) (l : List ReadMark) (hl : l.length ≤ 1048576) : ∀ (r p : List ReadMark) (i : Int) (c : List U), l = p ++ r → i = p.length → c.length = r.length → (∀ z ∈ c, z.size = 2) →
    f49_l0 E (.sl 2 (l.map ReadMark.u)) (.int .i64 i) (p.map ReadMark.u ++ c) = some (.sl 2 (l.map ReadMark.u))
  | [], p, i, c, e, hi, hc, _ => by
    obtain rfl : c = [] := List.length_eq_zero_iff.1 hc
    rw [f49_l0_eq]
    simp [mid_end e hi]
    simp [e, flats_ReadMark, ← List.map_append, ← List.map_cons]
  | x :: r, p, i, [], e, hi, hc, _ => by cases hc
  | x :: r, p, i, z :: c, e, hi, hc, hz => by
    obtain ⟨h0, hlt, hx, hw, hn, _⟩ := mid_at e hi (by omega)
    have hzs : z.size = 2 := hz z (by simp)
    obtain ⟨hg, hs, hlen⟩ := mid_set ReadMark.u p z c hi
    have ih := f49_l0_is h l hl r (p ++ [x]) (i + 1) c (mid_next e) hn (by simpa using hc) (fun y hy => hz y (by simp [hy]))
    simp only [List.map_append, List.map_cons, List.map_nil, List.append_assoc, List.cons_append, List.nil_append] at ih
    rw [f49_l0_eq]
    simp only [hg, hs, hx, hw, asInt_int, bin_lss, lenOf_sl, List.length_map, Option.bind_some, asBool_bool, hlt, decide_true, if_true, h0, hlen, and_self, bin_add, f47_is h.c_f47 x, hzs, ReadMark.u_var, ReadMark.u_size, ReadMark.u_storable, ReadMark.u_partable]
    simpa using ih
theorem f49_is (h : G_f49 E) (l : List ReadMark) (hl : l.length ≤ 1048576) : E 100028 [.sl 2 (l.map ReadMark.u)] = some (.sl 2 (l.map ReadMark.u)) := by
  have h1 := f49_l0_is h l hl l [] 0 (List.replicate l.length (.agg [.int .i64 0, .int .i64 0])) rfl rfl (by simp) (by simp)
  rw [f49_E h]
  simp only [lenOf_sl, Option.bind_some, List.length_map]
  rw [if_pos (by refine ⟨by omega, by omega, by omega, rfl⟩)]
  simpa using h1
theorem f61_l0_is (h : G_f61 E) (l : List Write) (hl : l.length ≤ 1048576) : ∀ (r p : List Write) (i : Int) (c : List U), l = p ++ r → i = p.length → c.length = r.length → (∀ z ∈ c, z.size = 2) →
    f61_l0 E (.sl 2 (l.map Write.u)) (.int .i64 i) (p.map Write.u ++ c) = some (.sl 2 (l.map Write.u))
  | [], p, i, c, e, hi, hc, _ => by
    obtain rfl : c = [] := List.length_eq_zero_iff.1 hc
    rw [f61_l0_eq]
    simp [mid_end e hi]
    simp [e, flats_Write, ← List.map_append, ← List.map_cons]
  | x :: r, p, i, [], e, hi, hc, _ => by cases hc
  | x :: r, p, i, z :: c, e, hi, hc, hz => by
    obtain ⟨h0, hlt, hx, hw, hn, _⟩ := mid_at e hi (by omega)
    have hzs : z.size = 2 := hz z (by simp)
    obtain ⟨hg, hs, hlen⟩ := mid_set Write.u p z c hi
    have ih := f61_l0_is h l hl r (p ++ [x]) (i + 1) c (mid_next e) hn (by simpa using hc) (fun y hy => hz y (by simp [hy]))
    simp only [List.map_append, List.map_cons, List.map_nil, List.append_assoc, List.cons_append, List.nil_append] at ih
    rw [f61_l0_eq]
    simp only [hg, hs, hx, hw, asInt_int, bin_lss, lenOf_sl, List.length_map, Option.bind_some, asBool_bool, hlt, decide_true, if_true, h0, hlen, and_self, bin_add, f59_is h.c_f59 x, hzs, Write.u_var, Write.u_size, Write.u_storable, Write.u_partable]
    simpa using ih
theorem f61_is (h : G_f61 E) (l : List Write) (hl : l.length ≤ 1048576) : E 100027 [.sl 2 (l.map Write.u)] = some (.sl 2 (l.map Write.u)) := by
  have h1 := f61_l0_is h l hl l [] 0 (List.replicate l.length (.agg [.int .i64 0, .int .i64 0])) rfl rfl (by simp) (by simp)
  rw [f61_E h]
  simp only [lenOf_sl, Option.bind_some, List.length_map]
  rw [if_pos (by refine ⟨by omega, by omega, by omega, rfl⟩)]
  simpa using h1
theorem f53_is (h : G_f53 E) (x : Transaction) (ho : x.ok) : E 100145 [x.u] = some x.u := by
  rw [f53_E h]
  have h1 := f49_is h.c_f49 x.reads ho.1
  have h2 := f61_is h.c_f61 x.writes ho.2
  have h3 : ∀ (k : Nat) (us : List U) (K : U → Option U), U.noTup (.sl k us) K = K (.sl k us) := fun _ _ _ => rfl
  have h4 : ∀ (n : Int) (K : U → Option U), U.noTup (.int .i64 n) K = K (.int .i64 n) := fun _ _ => rfl
  simp [h1, h2, U.asSlK, h3, h4, D.size, dsizes, D.size.dsizes]
  rfl
theorem f54_is (h : G_f54 E) (x : Version) : E 109 [x.u] = some x.u := by
  rw [f54_E h]
  simp [Version.u]
theorem f55_l0_is (h : G_f55 E) (l : List Version) (hl : l.length ≤ 1048576) : ∀ (r p : List Version) (i : Int) (c : List U), l = p ++ r → i = p.length → c.length = r.length → (∀ z ∈ c, z.size = 5) →
    f55_l0 E (.sl 5 (l.map Version.u)) (.int .i64 i) (p.map Version.u ++ c) = some (.sl 5 (l.map Version.u))
  | [], p, i, c, e, hi, hc, _ => by
    obtain rfl : c = [] := List.length_eq_zero_iff.1 hc
    rw [f55_l0_eq]
    simp [mid_end e hi]
    simp [e]
  | x :: r, p, i, [], e, hi, hc, _ => by cases hc
  | x :: r, p, i, z :: c, e, hi, hc, hz => by
    obtain ⟨h0, hlt, hx, hw, hn, _⟩ := mid_at e hi (by omega)
    have hzs : z.size = 5 := hz z (by simp)
    obtain ⟨hg, hs, hlen⟩ := mid_set Version.u p z c hi
    have ih := f55_l0_is h l hl r (p ++ [x]) (i + 1) c (mid_next e) hn (by simpa using hc) (fun y hy => hz y (by simp [hy]))
    simp only [List.map_append, List.map_cons, List.map_nil, List.append_assoc, List.cons_append, List.nil_append] at ih
    rw [f55_l0_eq]
    simp only [hg, hs, hx, hw, asInt_int, bin_lss, lenOf_sl, List.length_map, Option.bind_some, asBool_bool, hlt, decide_true, if_true, h0, hlen, and_self, bin_add, f54_is h.c_f54 x, hzs, Version.u_var, Version.u_size, Version.u_storable, Version.u_partable]
    simpa using ih
theorem f55_is (h : G_f55 E) (l : List Version) (hl : l.length ≤ 1048576) : E 108 [.sl 5 (l.map Version.u)] = some (.sl 5 (l.map Version.u)) := by
  have h1 := f55_l0_is h l hl l [] 0 (List.replicate l.length (.agg [.int .i64 0, .int .i64 0, .int .i64 0, .int .i64 0, .int .i64 0])) rfl rfl (by simp) (by simp)
  rw [f55_E h]
  simp only [lenOf_sl, Option.bind_some, List.length_map]
  rw [if_pos (by refine ⟨by omega, by omega, by omega, rfl⟩)]
  simpa using h1
theorem f29_is (h : G_f29 E) (x y : Version) : E 120 [x.u, y.u] = some (.bool (decide (x = y))) := by
  rw [f29_E h]
  obtain ⟨a0, a1, a2, a3, a4⟩ := x
  obtain ⟨b0, b1, b2, b3, b4⟩ := y
  simp only [Version.mk.injEq]
  by_cases h0 : a0 = b0
  case neg => simp [h0]
  subst h0
  by_cases h1 : a1 = b1
  case neg => simp [h1]
  subst h1
  by_cases h2 : a2 = b2
  case neg => simp [h2]
  subst h2
  by_cases h3 : a3 = b3
  case neg => simp [h3]
  subst h3
  by_cases h4 : a4 = b4
  case neg => simp [h4]
  subst h4
  simp []
theorem f30_l0_is (h : G_f30 E) (a b : List Version) (ha : a.length ≤ 1048576) (hb : b.length ≤ 1048576) : ∀ (r s p p2 : List Version) (i : Int), a = p ++ r → b = p2 ++ s → i = p.length → i = p2.length → r.length = s.length →
    f30_l0 E (.sl 5 (a.map Version.u)) (.sl 5 (b.map Version.u)) (.int .i64 i) = some (.bool (decide (r = s)))
  | [], [], p, p2, i, e, e2, hi, hi2, _ => by
    rw [f30_l0_eq]
    simp [mid_end e hi]
  | [], y :: s, _, _, _, _, _, _, _, hl => by cases hl
  | x :: r, [], _, _, _, _, _, _, _, hl => by cases hl
  | x :: r, y :: s, p, p2, i, e, e2, hi, hi2, hl => by
    obtain ⟨h0, hlt, hx, hw, hn, _⟩ := mid_at e hi (by omega)
    obtain ⟨_, _, hy, _, hn2, _⟩ := mid_at e2 hi2 (by omega)
    have ih := f30_l0_is h a b ha hb r s (p ++ [x]) (p2 ++ [y]) (i + 1) (mid_next e) (mid_next e2) hn hn2 (by simpa using hl)
    rw [f30_l0_eq]
    by_cases hxy : x = y
    · subst hxy
      simp [hlt, hx, hy, hw, ih, f29_is h.c_f29]
    · simp [hlt, hx, hy, hw, ih, f29_is h.c_f29, hxy]
theorem f30_is (h : G_f30 E) (a b : List Version) (ha : a.length ≤ 1048576) (hb : b.length ≤ 1048576) : E 119 [.sl 5 (a.map Version.u), .sl 5 (b.map Version.u)] = some (.bool (decide (a = b))) := by
  rw [f30_E h]
  by_cases hl : a.length = b.length
  · simp [hl, f30_l0_is h a b ha hb a b [] [] 0 rfl rfl rfl rfl hl]
  · have h1 : a ≠ b := fun e => hl (by rw [e])
    have h2 : (a.length : Int) ≠ b.length := by omega
    simp [h1, h2]
theorem f44_is (h : G_f44 E) (l : List Version) (hl : l.length ≤ maxLen) (left : Int) (h0 : 0 ≤ left) (h1 : left ≤ 1048576) : E 101 [.sl 5 (l.map Version.u), .int .i64 left] = some (.int .i64 (szc l.length left)) := by
  rw [f44_E h]
  unfold maxLen at hl
  have hw : IntKind.i64.wrap (left - (l.length : Int)) = left - l.length := wrap_in (by omega)
  by_cases h2 : left - (l.length : Int) < 0 <;> simp [hw, szc, h2]
theorem f55_ch (h : G_f55 E) (x : List Version) (hx : chainOk x) : E 108 [chainU x] = some (chainU x) := f55_is h x hx
theorem f30_ch (h : G_f30 E) (x y : List Version) (hx : chainOk x) (hy : chainOk y) : E 119 [chainU x, chainU y] = some (.bool (decide (x = y))) := f30_is h x y hx hy
theorem f44_ch (h : G_f44 E) (x : List Version) (hx : chainFit x) (left : Int) (h0 : 0 ≤ left) (h1 : left ≤ 1048576) : E 101 [chainU x, .int .i64 left] = some (.int .i64 (chainSz x left)) := f44_is h x hx left h0 h1
theorem f56_l0_is (h : G_f56 E) (l : List (List Version)) (hl : l.length ≤ 1048576) (hok : ∀ x ∈ l, chainOk x) : ∀ (r p : List (List Version)) (i : Int) (c : List U), l = p ++ r → i = p.length → c.length = r.length → (∀ z ∈ c, z.size = 1) →
    f56_l0 E (.sl 1 (l.map chainU)) (.int .i64 i) (p.map chainU ++ c) = some (.sl 1 (l.map chainU))
  | [], p, i, c, e, hi, hc, _ => by
    obtain rfl : c = [] := List.length_eq_zero_iff.1 hc
    rw [f56_l0_eq]
    simp [mid_end e hi]
    simp [e]
  | x :: r, p, i, [], e, hi, hc, _ => by cases hc
  | x :: r, p, i, z :: c, e, hi, hc, hz => by
    obtain ⟨h0, hlt, hx, hw, hn, _⟩ := mid_at e hi (by omega)
    have hox : chainOk x := hok x (by rw [e]; simp)
    have hzs : z.size = 1 := hz z (by simp)
    obtain ⟨hg, hs, hlen⟩ := mid_set chainU p z c hi
    have ih := f56_l0_is h l hl hok r (p ++ [x]) (i + 1) c (mid_next e) hn (by simpa using hc) (fun y hy => hz y (by simp [hy]))
    simp only [List.map_append, List.map_cons, List.map_nil, List.append_assoc, List.cons_append, List.nil_append] at ih
    rw [f56_l0_eq]
    simp only [hg, hs, hx, hw, asInt_int, bin_lss, lenOf_sl, List.length_map, Option.bind_some, asBool_bool, hlt, decide_true, if_true, h0, hlen, and_self, bin_add, f55_ch h.c_f55 x hox, hzs, asVar_chainU, chainU_size, storable_chainU, partable_chainU]
    simpa using ih
theorem f56_is (h : G_f56 E) (l : List (List Version)) (hl : l.length ≤ 1048576) (hok : ∀ x ∈ l, chainOk x) : E 107 [.sl 1 (l.map chainU)] = some (.sl 1 (l.map chainU)) := by
  have h1 := f56_l0_is h l hl hok l [] 0 (List.replicate l.length (.nsl 5)) rfl rfl (by simp) (by simp)
  rw [f56_E h]
  simp only [lenOf_sl, Option.bind_some, List.length_map]
  rw [if_pos (by refine ⟨by omega, by omega, by omega, rfl⟩)]
  simpa using h1
theorem f31_l0_is (h : G_f31 E) (a b : List (List Version)) (ha : a.length ≤ 1048576) (hb : b.length ≤ 1048576) (hao : ∀ x ∈ a, chainOk x) (hbo : ∀ x ∈ b, chainOk x) : ∀ (r s p p2 : List (List Version)) (i : Int), a = p ++ r → b = p2 ++ s → i = p.length → i = p2.length → r.length = s.length →
    f31_l0 E (.sl 1 (a.map chainU)) (.sl 1 (b.map chainU)) (.int .i64 i) = some (.bool (decide (r = s)))
  | [], [], p, p2, i, e, e2, hi, hi2, _ => by
    rw [f31_l0_eq]
    simp [mid_end e hi]
  | [], y :: s, _, _, _, _, _, _, _, hl => by cases hl
  | x :: r, [], _, _, _, _, _, _, _, hl => by cases hl
  | x :: r, y :: s, p, p2, i, e, e2, hi, hi2, hl => by
    obtain ⟨h0, hlt, hx, hw, hn, _⟩ := mid_at e hi (by omega)
    obtain ⟨_, _, hy, _, hn2, _⟩ := mid_at e2 hi2 (by omega)
    have hox : chainOk x := hao x (by rw [e]; simp)
    have hoy : chainOk y := hbo y (by rw [e2]; simp)
    have ih := f31_l0_is h a b ha hb hao hbo r s (p ++ [x]) (p2 ++ [y]) (i + 1) (mid_next e) (mid_next e2) hn hn2 (by simpa using hl)
    rw [f31_l0_eq]
    by_cases hxy : x = y
    · subst hxy
      simp [hlt, hx, hy, hw, ih, f30_ch h.c_f30 _ _ hox hoy]
    · simp [hlt, hx, hy, hw, ih, f30_ch h.c_f30 _ _ hox hoy, hxy]
theorem f31_is (h : G_f31 E) (a b : List (List Version)) (ha : a.length ≤ 1048576) (hb : b.length ≤ 1048576) (hao : ∀ x ∈ a, chainOk x) (hbo : ∀ x ∈ b, chainOk x) : E 118 [.sl 1 (a.map chainU), .sl 1 (b.map chainU)] = some (.bool (decide (a = b))) := by
  rw [f31_E h]
  by_cases hl : a.length = b.length
  · simp [hl, f31_l0_is h a b ha hb hao hbo a b [] [] 0 rfl rfl rfl rfl hl]
  · have h1 : a ≠ b := fun e => hl (by rw [e])
    have h2 : (a.length : Int) ≠ b.length := by omega
    simp [h1, h2]
theorem f45_l0_is (h : G_f45 E) (l : List (List Version)) (hl : l.length ≤ 1048576) (hf : ∀ x ∈ l, chainFit x) : ∀ (r p : List (List Version)) (i left : Int), l = p ++ r → i = p.length → 0 ≤ left → left ≤ 1048576 →
    f45_l0 E (.sl 1 (l.map chainU)) (.int .i64 left) (.int .i64 i) = some (.int .i64 (szl chainSz r left))
  | [], p, i, left, e, hi, _, _ => by
    rw [f45_l0_eq]
    simp [mid_end e hi, szl]
  | x :: r, p, i, left, e, hi, h1, h2 => by
    obtain ⟨h0, hlt, hx, hw, hn, _⟩ := mid_at e hi (by omega)
    have hfx : chainFit x := hf x (by rw [e]; simp)
    rw [f45_l0_eq]
    rcases chainSz_szs x left h1 h2 with h3 | ⟨_, h3, h4⟩
    · simp [hlt, hx, hw, szl, f44_ch h.c_f44 x hfx left h1 h2, h3]
    · have ih := f45_l0_is h l hl hf r (p ++ [x]) (i + 1) (chainSz x left) (mid_next e) hn h3 (by omega)
      have h5 : ¬ chainSz x left < 0 := by omega
      simp [hlt, hx, hw, szl, f44_ch h.c_f44 x hfx left h1 h2, h5, ih]
theorem f45_is (h : G_f45 E) (l : List (List Version)) (hl : l.length ≤ maxLen) (hf : ∀ x ∈ l, chainFit x) (left : Int) (h0 : 0 ≤ left) (h1 : left ≤ 1048576) : E 100 [.sl 1 (l.map chainU), .int .i64 left] = some (.int .i64 (szL chainSz l left)) := by
  rw [f45_E h]
  unfold maxLen at hl
  have hw : IntKind.i64.wrap (left - (l.length : Int)) = left - l.length := wrap_in (by omega)
  by_cases h2 : left - (l.length : Int) < 0
  · simp [hw, szL, h2]
  · simp [hw, szL, h2, f45_l0_is h l (by omega) hf l [] 0 (left - l.length) rfl rfl (by omega) (by omega)]
theorem f50_is (h : G_f50 E) (s : Store) (ho : s.ok) : E 93 [s.u] = some s.u := by
  rw [f50_E h]
  have h1 := f56_is h.c_f56 s.chains ho.1 ho.2
  simp [h1]
  rfl
theorem f27_is (h : G_f27 E) (s t : Store) (ho : s.ok) (ho2 : t.ok) : E 97 [s.u, t.u] = some (.bool (decide (s = t))) := by
  rw [f27_E h]
  have h1 := f31_is h.c_f31 s.chains t.chains ho.1 ho2.1 ho.2 ho2.2
  by_cases h2 : s.chains = t.chains <;> simp [h1, h2, Store.eq_iff]
  rw [h2] at h1
  simp [h1]
theorem f42_is (h : G_f42 E) (s : Store) (hf : s.fit) (left : Int) (h0 : 0 ≤ left) (h1 : left ≤ 1048576) : E 99 [s.u, .int .i64 left] = some (.int .i64 (s.sz left)) := by
  rw [f42_E h]
  have a1 := f45_is h.c_f45 s.chains hf.1 hf.2 left h0 h1
  by_cases h2 : szL chainSz s.chains left < 0
  · have h3 := szL_neg chainSz_neg h2
    simp [a1, h3, Store.sz]
  · simp [a1, h2, Store.sz]
def upVersion : Int → Nat → List Version
  | _, 0 => []
  | k, n + 1 => ⟨k, k + 1, k + 2, k + 3, k + 4⟩ :: upVersion (k + 5) n
theorem flats_Version (l : List Version) : U.flat.flats (l.map Version.u) = true := flats_map _ (fun _ => rfl) l
theorem f39_l0_is (h : G_f39 E) : ∀ (r p : List Version) (k i : Int), i = p.length → p.length + r.length ≤ 1048576 → 0 ≤ k → k + 5 * r.length ≤ 1099511627776 →
    f39_l0 E (.int .i64 k) (.int .i64 i) (p.map Version.u ++ r.map Version.u) = some (.tup [.int .i64 (k + 5 * r.length), .sl 5 (p.map Version.u ++ (upVersion k r.length).map Version.u)])
  | [], p, k, i, hi, hb, hk, hk2 => by
    have h1 : ¬ i < ((p.map Version.u ++ ([] : List Version).map Version.u).length : Int) := by simp [hi]
    rw [f39_l0_eq]
    simp only [bin_lss, h1, decide_false, Option.bind_some, asBool_bool, Bool.false_eq_true, if_false]
    rw [← List.map_append]
    simp [upVersion, flats_Version]
  | x :: r, p, k, i, hi, hb, hk, hk2 => by
    simp only [List.length_cons] at hb hk2
    have hm := fun z => mid_set Version.u p z (r.map Version.u) hi
    have hg := fun z => (hm z).1
    have hs := fun z => (hm z).2.1
    have hlen := fun z => (hm z).2.2
    have h0 : 0 ≤ i := by omega
    have hw0 : IntKind.i64.wrap (k + 1) = k + 1 := by rw [wrap_in (by omega)]
    have hw1 : IntKind.i64.wrap (k + 1 + 1) = k + 2 := by rw [wrap_in (by omega)]; omega
    have hw2 : IntKind.i64.wrap (k + 2 + 1) = k + 3 := by rw [wrap_in (by omega)]; omega
    have hw3 : IntKind.i64.wrap (k + 3 + 1) = k + 4 := by rw [wrap_in (by omega)]; omega
    have hw4 : IntKind.i64.wrap (k + 4 + 1) = k + 5 := by rw [wrap_in (by omega)]; omega
    have hwi : IntKind.i64.wrap (i + 1) = i + 1 := wrap_in (by omega)
    have ih := f39_l0_is h r (p ++ [⟨k, k + 1, k + 2, k + 3, k + 4⟩]) (k + 5) (i + 1) (by simp [hi]) (by simp; omega) (by omega) (by omega)
    simp only [List.map_append, List.map_cons, List.map_nil, List.append_assoc, List.cons_append, List.nil_append] at ih
    rw [f39_l0_eq]
    simp only [List.map_cons, bin_lss, hlen, decide_true, Option.bind_some, asBool_bool, if_true, asInt_int, h0, and_self, storable_int, size_int, flat_int, hg, hs, Version.u_agg, asAgg_agg, List.take_zero, List.take_succ_cons, sizes_cons, sizes_nil, Nat.add_zero, Nat.zero_add, List.getElem?_cons_zero, List.getElem?_cons_succ, List.set_cons_zero, List.set_cons_succ, bin_add, hw0, hw1, hw2, hw3, hw4, hwi, Nat.reduceAdd]
    have e : k + 5 + 5 * (r.length : Int) = k + 5 * ((r.length + 1 : Nat) : Int) := by omega
    rw [e] at ih
    simpa [upVersion, Version.u] using ih
theorem f39_is (h : G_f39 E) (l : List Version) (hl : l.length ≤ 1048576) (k : Int) (hk : 0 ≤ k) (hk2 : k ≤ 1073741824) :
    E 200122 (.agg [.tup [.sl 5 (l.map Version.u)]] :: [.int .i64 k]) = some (.tup [.int .i64 (k + 5 * l.length), .sl 5 ((upVersion k l.length).map Version.u)]) := by
  rw [f39_E h]
  exact f39_l0_is h l [] k 0 rfl (by simpa using hl) hk (by omega)
theorem f58_l0_is (h : G_f58 E) (l : List Version) (hl : l.length ≤ 1048576) : ∀ (r p : List Version) (i : Int) (c : List U), l = p ++ r → i = p.length → c.length = r.length → (∀ z ∈ c, z.size = 5) →
    f58_l0 E (.sl 5 (l.map Version.u)) (.int .i64 i) (p.map Version.u ++ c) = some (.sl 5 (l.map Version.u))
  | [], p, i, c, e, hi, hc, _ => by
    obtain rfl : c = [] := List.length_eq_zero_iff.1 hc
    rw [f58_l0_eq]
    simp [mid_end e hi]
    simp [e, flats_Version, ← List.map_append, ← List.map_cons]
  | x :: r, p, i, [], e, hi, hc, _ => by cases hc
  | x :: r, p, i, z :: c, e, hi, hc, hz => by
    obtain ⟨h0, hlt, hx, hw, hn, _⟩ := mid_at e hi (by omega)
    have hzs : z.size = 5 := hz z (by simp)
    obtain ⟨hg, hs, hlen⟩ := mid_set Version.u p z c hi
    have ih := f58_l0_is h l hl r (p ++ [x]) (i + 1) c (mid_next e) hn (by simpa using hc) (fun y hy => hz y (by simp [hy]))
    simp only [List.map_append, List.map_cons, List.map_nil, List.append_assoc, List.cons_append, List.nil_append] at ih
    rw [f58_l0_eq]
    simp only [hg, hs, hx, hw, asInt_int, bin_lss, lenOf_sl, List.length_map, Option.bind_some, asBool_bool, hlt, decide_true, if_true, h0, hlen, and_self, bin_add, f54_is h.c_f54 x, hzs, Version.u_var, Version.u_size, Version.u_storable, Version.u_partable]
    simpa using ih
theorem f58_is (h : G_f58 E) (l : List Version) (hl : l.length ≤ 1048576) : E 100108 [.sl 5 (l.map Version.u)] = some (.sl 5 (l.map Version.u)) := by
  have h1 := f58_l0_is h l hl l [] 0 (List.replicate l.length (.agg [.int .i64 0, .int .i64 0, .int .i64 0, .int .i64 0, .int .i64 0])) rfl rfl (by simp) (by simp)
  rw [f58_E h]
  simp only [lenOf_sl, Option.bind_some, List.length_map]
  rw [if_pos (by refine ⟨by omega, by omega, by omega, rfl⟩)]
  simpa using h1
theorem f57_l0_is (h : G_f57 E) (l : List (List Version)) (hl : l.length ≤ 1048576) (hok : ∀ x ∈ l, chainOk x) : ∀ (r p : List (List Version)) (i : Int) (c : List U), l = p ++ r → i = p.length → c.length = r.length → (∀ z ∈ c, z.size = 1) →
    f57_l0 E (.sl 1 (l.map chainU)) (.int .i64 i) (p.map chainU ++ c) = some (.sl 1 (l.map chainU))
  | [], p, i, c, e, hi, hc, _ => by
    obtain rfl : c = [] := List.length_eq_zero_iff.1 hc
    rw [f57_l0_eq]
    simp [mid_end e hi]
    simp [e]
  | x :: r, p, i, [], e, hi, hc, _ => by cases hc
  | x :: r, p, i, z :: c, e, hi, hc, hz => by
    obtain ⟨h0, hlt, hx, hw, hn, _⟩ := mid_at e hi (by omega)
    have hox : chainOk x := hok x (by rw [e]; simp)
    have hzs : z.size = 1 := hz z (by simp)
    obtain ⟨hg, hs, hlen⟩ := mid_set chainU p z c hi
    have ih := f57_l0_is h l hl hok r (p ++ [x]) (i + 1) c (mid_next e) hn (by simpa using hc) (fun y hy => hz y (by simp [hy]))
    simp only [List.map_append, List.map_cons, List.map_nil, List.append_assoc, List.cons_append, List.nil_append] at ih
    have hF : E 100108 [U.sl 5 (x.map Version.u)] = some (U.sl 5 (x.map Version.u)) := f58_is h.c_f58 x hox
    rw [f57_l0_eq]
    simp only [hg, hs, hx, hw, asInt_int, bin_lss, lenOf_sl, List.length_map, Option.bind_some, asBool_bool, hlt, decide_true, if_true, h0, hlen, and_self, bin_add, f58_is h.c_f58 x hox, chainU, U.noTup, U.asSlK, hzs, asVar_chainU, chainU_size, storable_chainU, partable_chainU]
    simpa [hF, chainU] using ih
theorem f57_is (h : G_f57 E) (l : List (List Version)) (hl : l.length ≤ 1048576) (hok : ∀ x ∈ l, chainOk x) : E 100107 [.sl 1 (l.map chainU)] = some (.sl 1 (l.map chainU)) := by
  have h1 := f57_l0_is h l hl hok l [] 0 (List.replicate l.length (.nsl 5)) rfl rfl (by simp) (by simp)
  rw [f57_E h]
  simp only [lenOf_sl, Option.bind_some, List.length_map]
  rw [if_pos (by refine ⟨by omega, by omega, by omega, rfl⟩)]
  have hfl : ∀ n : Nat, U.flat.flats (List.replicate n (U.nsl 5)) = true := by
    intro n
    induction n with
    | zero => rfl
    | succ n ih => simp [List.replicate_succ, U.flat.flats, U.flat, ih]
  simpa [hfl] using h1
theorem f51_is (h : G_f51 E) (s : Store) (ho : s.ok) : E 100093 [s.u] = some s.u := by
  rw [f51_E h]
  have h1 := f57_is h.c_f57 s.chains ho.1 ho.2
  have h2 : ∀ (us : List U) (K : U → Option U), U.noTup (.sl 1 us) K = K (.sl 1 us) := fun _ _ => rfl
  simp [h1, U.asSlK, h2]
  rfl
def sumLen : List (List Version) → Int
  | [] => 0
  | c :: r => c.length + sumLen r
theorem sumLen_nonneg : ∀ l, 0 ≤ sumLen l
  | [] => by simp [sumLen]
  | c :: r => by have := sumLen_nonneg r; simp only [sumLen]; omega
theorem sumLen_szl : ∀ (r : List (List Version)) (left : Int), 0 ≤ left → 0 ≤ szl chainSz r left → sumLen r ≤ left
  | [], left, h0, h => by simpa [sumLen] using h0
  | x :: r, left, h0, h => by
    simp only [szl] at h
    by_cases h1 : chainSz x left < 0
    · rw [if_pos h1] at h; omega
    · rw [if_neg h1] at h
      have h2 := sumLen_szl r (chainSz x left) (by omega) h
      simp only [chainSz, szc] at h1 h2
      simp only [sumLen]
      split at h2 <;> omega
theorem sumLen_sz (s : Store) (left : Int) (h0 : 0 ≤ left) (h : 0 ≤ s.sz left) : sumLen s.chains ≤ left := by
  simp only [Store.sz, szL] at h
  split at h
  · omega
  · have := sumLen_szl s.chains _ (by omega) h
    omega
def upChains : Int → List Nat → List (List Version)
  | _, [] => []
  | k, n :: ns => upVersion k n :: upChains (k + 5 * n) ns
def sumN : List Nat → Int
  | [] => 0
  | n :: ns => n + sumN ns
theorem sumN_nonneg : ∀ l, 0 ≤ sumN l
  | [] => by simp [sumN]
  | c :: r => by have := sumN_nonneg r; simp only [sumN]; omega
theorem f38_l0_is2 (h : G_f38 E) : ∀ (r : List (List Version)) (p : List U) (k i : Int), i = p.length → p.length + r.length ≤ 1048576 → (∀ x ∈ r, chainOk x) → 0 ≤ k → k + 5 * sumN (r.map List.length) ≤ 1073741824 →
    f38_l0 E (.int .i64 k) (.int .i64 i) (p ++ r.map chainU) = some (.tup [.int .i64 (k + 5 * sumN (r.map List.length)), .sl 1 (p ++ (upChains k (r.map List.length)).map chainU)])
  | [], p, k, i, hi, hb, hr, hk, hk2 => by
    have h1 : ¬ i < (p.length : Int) := by omega
    rw [f38_l0_eq]
    simp [h1, sumN, upChains, U.flat]
  | x :: r, p, k, i, hi, hb, hr, hk, hk2 => by
    simp only [List.length_cons, List.map_cons, sumN] at hb hk2
    have hs := sumN_nonneg (r.map List.length)
    have hx : x.length ≤ 1048576 := hr x (by simp)
    have hm := f39_is h.c_f39 x hx k hk (by omega)
    have h1 := f38_l0_is2 h r (p ++ [.sl 5 ((upVersion k x.length).map Version.u)]) (k + 5 * x.length) (i + 1) (by simp [hi]) (by simp; omega) (fun y hy => hr y (by simp [hy])) (by omega) (by omega)
    have hn : i.toNat = p.length := by omega
    have hlt : i < ((p ++ chainU x :: r.map chainU).length : Int) := by simp; omega
    have h0 : 0 ≤ i := by omega
    have hw : IntKind.i64.wrap (i + 1) = i + 1 := wrap_in (by omega)
    have hg : (p ++ chainU x :: r.map chainU)[p.length]? = some (.sl 5 (x.map Version.u)) := by simp [chainU]
    have hset : ∀ z, (p ++ chainU x :: r.map chainU).set p.length z = p ++ z :: r.map chainU := fun z => by simp
    have e : k + 5 * (x.length : Int) + 5 * sumN (r.map List.length) = k + 5 * ((x.length : Int) + sumN (r.map List.length)) := by omega
    rw [f38_l0_eq]
    simp only [List.append_assoc, List.cons_append, List.nil_append, e] at h1
    simp only [List.map_cons, bin_lss, hlt, decide_true, Option.bind_some, asBool_bool, if_true, asInt_int, h0, and_self, hn, hg, U.asSlK, hm, U.asMut, U.asFlat, U.flat, U.size, bin_add, hw, hset, sumN, upChains]
    exact h1
theorem f38_is (h : G_f38 E) (l : List (List Version)) (hl : l.length ≤ 1048576) (hc : ∀ x ∈ l, chainOk x) (k : Int) (hk : 0 ≤ k) (hk2 : k + 5 * sumN (l.map List.length) ≤ 1073741824) :
    E 200121 (.agg [.tup [.sl 1 (l.map chainU)]] :: [.int .i64 k]) = some (.tup [.int .i64 (k + 5 * sumN (l.map List.length)), .sl 1 ((upChains k (l.map List.length)).map chainU)]) := by
  rw [f38_E h]
  exact f38_l0_is2 h l [] k 0 rfl (by simpa using hl) hc hk hk2
theorem sumN_sumLen : ∀ l : List (List Version), sumN (l.map List.length) = sumLen l
  | [] => rfl
  | c :: r => by simp only [List.map_cons, sumN, sumLen, sumN_sumLen r]
theorem f36_l0_is (h : G_f36 E) (l : List Write) (hl : l.length ≤ 1048576) : ∀ (n : Nat) (p : List Write) (k i : Int), l = p ++ upWrite k n → i = p.length → 0 ≤ k → k + 2 * n ≤ 1099511627776 →
    f36_l0 E (.sl 2 (l.map Write.u)) (.int .i64 k) (.int .i64 i) = some (.int .i64 (k + 2 * n))
  | 0, p, k, i, e, hi, hk, hk2 => by
    rw [f36_l0_eq]
    simp [mid_end e hi]
  | n + 1, p, k, i, e0, hi, hk, hk2 => by
    have e : l = p ++ (⟨k, k + 1⟩ : Write) :: upWrite (k + 2) n := e0
    obtain ⟨h0, hlt, hx, hw, hn, _⟩ := mid_at e hi (by omega)
    have hw0 : IntKind.i64.wrap (k + 1) = k + 1 := by rw [wrap_in (by omega)]
    have hw1 : IntKind.i64.wrap (k + 1 + 1) = k + 2 := by rw [wrap_in (by omega)]; omega
    have ih := f36_l0_is h l hl n (p ++ [⟨k, k + 1⟩]) (k + 2) (i + 1) (mid_next e) hn (by omega) (by omega)
    have e2 : k + 2 + 2 * (n : Int) = k + 2 * ((n + 1 : Nat) : Int) := by omega
    rw [e2] at ih
    rw [f36_l0_eq]
    simp only [lenOf_sl, List.length_map, Option.bind_some, bin_lss, hlt, decide_true, asBool_bool, if_true, asInt_int, hx, Write.u_at0, Write.u_at1, asVar_int, bin_neq, ne_eq, not_true_eq_false, decide_false, Bool.false_eq_true, if_false, bin_add, hw, hw0, hw1]
    exact ih
theorem f36_is (h : G_f36 E) (n : Nat) (hn : n ≤ 1048576) (k : Int) (hk : 0 ≤ k) (hk2 : k ≤ 4194304) : E 235 [.sl 2 ((upWrite k n).map Write.u), .int .i64 k] = some (.int .i64 (k + 2 * n)) := by
  rw [f36_E h]
  exact f36_l0_is h _ (by rw [upWrite_length]; exact hn) n [] k 0 rfl rfl hk (by omega)
def Transaction.marked (x : Transaction) (k : Int) : Transaction := { x with reads := upReadMark k x.reads.length, writes := upWrite (k + 2 * x.reads.length) x.writes.length }
theorem f35_is (h : G_f35 E) (x : Transaction) (ho : x.ok) : E 205 [(x.marked 1).u, .int .i64 1] = some (.int .i64 (1 + 2 * x.reads.length + 2 * x.writes.length)) := by
  rw [f35_E h]
  obtain ⟨h1, h2⟩ := ho
  have a1 := f34_is h.c_f34 x.reads.length h1 1 (by omega) (by omega)
  have a2 := f36_is h.c_f36 x.writes.length h2 (1 + 2 * x.reads.length) (by omega) (by omega)
  have n1 : ¬ 1 + 2 * (x.reads.length : Int) < 0 := by omega
  have n2 : ¬ 1 + 2 * (x.reads.length : Int) + 2 * (x.writes.length : Int) < 0 := by omega
  simp [Transaction.marked, a1, a2, n1, n2]
abbrev shI : Sh := .int .i64
theorem fits_int {u : U} (h : Fits shI u) : ∃ n, u = .int .i64 n ∧ -9223372036854775808 ≤ n ∧ n ≤ 9223372036854775807 := by
  cases u <;> first | exact h.elim | skip
  rename_i k n
  obtain ⟨rfl, h1, h2⟩ := h
  exact ⟨n, rfl, h1, h2⟩
theorem fits_agg {ss : List Sh} {u : U} (h : Fits (.agg ss) u) : ∃ us, u = .agg us ∧ Fits.fits ss us := by
  cases u <;> first | exact h.elim | exact ⟨_, rfl, h⟩
theorem fits_cons {s : Sh} {ss : List Sh} {us : List U} (h : Fits.fits (s :: ss) us) : ∃ u us', us = u :: us' ∧ Fits s u ∧ Fits.fits ss us' := by
  cases us with
  | nil => exact h.elim
  | cons u us => exact ⟨u, us, rfl, h.1, h.2⟩
theorem fits_nil {us : List U} (h : Fits.fits [] us) : us = [] := by
  cases us with
  | nil => rfl
  | cons u us => exact h.elim
theorem fits_map {α : Type} {s : Sh} {f : α → U} {Q : α → Prop} (hs : ∀ u, Fits s u → ∃ x, u = f x ∧ Q x) : ∀ us : List U, (∀ u ∈ us, Fits s u) → ∃ l : List α, us = l.map f ∧ ∀ x ∈ l, Q x
  | [], _ => ⟨[], rfl, by simp⟩
  | u :: us, h => by
    obtain ⟨x, rfl, hx⟩ := hs u (h u (by simp))
    obtain ⟨l, rfl, hl⟩ := fits_map hs us (fun v hv => h v (by simp [hv]))
    exact ⟨x :: l, rfl, by simpa using ⟨hx, hl⟩⟩
theorem fits_sl {α : Type} {k : Nat} {s : Sh} {f : α → U} {Q : α → Prop} (hs : ∀ u, Fits s u → ∃ x, u = f x ∧ Q x) {u : U} (h : Fits (.sl k s) u) : ∃ l : List α, u = .sl k (l.map f) ∧ l.length ≤ maxLen ∧ ∀ x ∈ l, Q x := by
  cases u <;> first | exact h.elim | skip
  obtain ⟨rfl, h1, h2⟩ := h
  obtain ⟨l, rfl, hl⟩ := fits_map hs _ h2
  exact ⟨l, rfl, by simpa using h1, hl⟩
abbrev shReadMark : Sh := .agg [shI, shI]
theorem fits_ReadMark (u : U) (h : Fits shReadMark u) : ∃ x : ReadMark, u = x.u ∧ True := by
  obtain ⟨us0, rfl, hs0⟩ := fits_agg h
  obtain ⟨u0, us1, rfl, h0, hs1⟩ := fits_cons hs0
  obtain ⟨a0, rfl, _⟩ := fits_int h0
  obtain ⟨u1, us2, rfl, h1, hs2⟩ := fits_cons hs1
  obtain ⟨a1, rfl, _⟩ := fits_int h1
  obtain rfl := fits_nil hs2
  exact ⟨⟨a0, a1⟩, rfl, trivial⟩
abbrev shWrite : Sh := .agg [shI, shI]
theorem fits_Write (u : U) (h : Fits shWrite u) : ∃ x : Write, u = x.u ∧ True := by
  obtain ⟨us0, rfl, hs0⟩ := fits_agg h
  obtain ⟨u0, us1, rfl, h0, hs1⟩ := fits_cons hs0
  obtain ⟨a0, rfl, _⟩ := fits_int h0
  obtain ⟨u1, us2, rfl, h1, hs2⟩ := fits_cons hs1
  obtain ⟨a1, rfl, _⟩ := fits_int h1
  obtain rfl := fits_nil hs2
  exact ⟨⟨a0, a1⟩, rfl, trivial⟩
abbrev shVersion : Sh := .agg [shI, shI, shI, shI, shI]
theorem fits_Version (u : U) (h : Fits shVersion u) : ∃ x : Version, u = x.u ∧ True := by
  obtain ⟨us0, rfl, hs0⟩ := fits_agg h
  obtain ⟨u0, us1, rfl, h0, hs1⟩ := fits_cons hs0
  obtain ⟨a0, rfl, _⟩ := fits_int h0
  obtain ⟨u1, us2, rfl, h1, hs2⟩ := fits_cons hs1
  obtain ⟨a1, rfl, _⟩ := fits_int h1
  obtain ⟨u2, us3, rfl, h2, hs3⟩ := fits_cons hs2
  obtain ⟨a2, rfl, _⟩ := fits_int h2
  obtain ⟨u3, us4, rfl, h3, hs4⟩ := fits_cons hs3
  obtain ⟨a3, rfl, _⟩ := fits_int h3
  obtain ⟨u4, us5, rfl, h4, hs5⟩ := fits_cons hs4
  obtain ⟨a4, rfl, _⟩ := fits_int h4
  obtain rfl := fits_nil hs5
  exact ⟨⟨a0, a1, a2, a3, a4⟩, rfl, trivial⟩
abbrev shTransaction : Sh := .agg [shI, shI, shI, shI, shI, shI, shI, .sl 2 shReadMark, .sl 2 shWrite]
theorem fits_Transaction (u : U) (h : Fits shTransaction u) : ∃ x : Transaction, u = x.u ∧ x.fit := by
  obtain ⟨us0, rfl, hs0⟩ := fits_agg h
  obtain ⟨u0, us1, rfl, h0, hs1⟩ := fits_cons hs0
  obtain ⟨a0, rfl, _⟩ := fits_int h0
  obtain ⟨u1, us2, rfl, h1, hs2⟩ := fits_cons hs1
  obtain ⟨a1, rfl, _⟩ := fits_int h1
  obtain ⟨u2, us3, rfl, h2, hs3⟩ := fits_cons hs2
  obtain ⟨a2, rfl, _⟩ := fits_int h2
  obtain ⟨u3, us4, rfl, h3, hs4⟩ := fits_cons hs3
  obtain ⟨a3, rfl, _⟩ := fits_int h3
  obtain ⟨u4, us5, rfl, h4, hs5⟩ := fits_cons hs4
  obtain ⟨a4, rfl, _⟩ := fits_int h4
  obtain ⟨u5, us6, rfl, h5, hs6⟩ := fits_cons hs5
  obtain ⟨a5, rfl, _⟩ := fits_int h5
  obtain ⟨u6, us7, rfl, h6, hs7⟩ := fits_cons hs6
  obtain ⟨a6, rfl, _⟩ := fits_int h6
  obtain ⟨u7, us8, rfl, h7, hs8⟩ := fits_cons hs7
  obtain ⟨a7, rfl, l7, _⟩ := fits_sl fits_ReadMark h7
  obtain ⟨u8, us9, rfl, h8, hs9⟩ := fits_cons hs8
  obtain ⟨a8, rfl, l8, _⟩ := fits_sl fits_Write h8
  obtain rfl := fits_nil hs9
  exact ⟨⟨a0, a1, a2, a3, a4, a5, a6, a7, a8⟩, rfl, ⟨l7, l8⟩⟩
abbrev shStore : Sh := .agg [.sl 1 (.sl 5 shVersion)]
theorem fits_chain (u : U) (h : Fits (.sl 5 shVersion) u) : ∃ l : List Version, u = chainU l ∧ chainFit l := by
  obtain ⟨l, h1, h2, _⟩ := fits_sl fits_Version h
  exact ⟨l, h1, h2⟩
theorem fits_Store (u : U) (h : Fits shStore u) : ∃ s : Store, u = s.u ∧ s.fit := by
  obtain ⟨us0, rfl, hs0⟩ := fits_agg h
  obtain ⟨u0, us1, rfl, h0, hs1⟩ := fits_cons hs0
  obtain ⟨l, rfl, h1, h2⟩ := fits_sl fits_chain h0
  obtain rfl := fits_nil hs1
  exact ⟨⟨l⟩, rfl, h1, h2⟩
def tx9 (a1 a2 a3 a4 a5 a6 a7 : Int) (R W : List U) : U := .agg [.int .i64 a1, .int .i64 a2, .int .i64 a3, .int .i64 a4, .int .i64 a5, .int .i64 a6, .int .i64 a7, .sl 2 R, .sl 2 W]
def st1 (C : List U) : U := .agg [.sl 1 C]
theorem trackW_core (h : G_f24 E) {k v : U} {a1 a2 a3 a4 a5 a6 a7 y1 y2 y3 y4 y5 y6 y7 : Int} {C C2 R W R2 W2 Y Z Y2 Z2 : List U} {b : Bool} {n m c0 c1 c2 d1 d2 : Int} (n3 : ¬ n < 0) (m3' : ¬ m < 0) (n4 : ¬ c2 < 0) (n5 : ¬ d2 < 0)
    (s1 : E 99 [st1 C, .int .i64 1048576] = some (.int .i64 n))
    (s2 : E 132 [tx9 a1 a2 a3 a4 a5 a6 a7 R W, .int .i64 n] = some (.int .i64 m))
    (hs : E 93 [st1 C] = some (st1 C)) (hsF : E 100093 [st1 C] = some (st1 C)) (hse : E 97 [st1 C, st1 C] = some (.bool true))
    (ht : E 145 [tx9 a1 a2 a3 a4 a5 a6 a7 R W] = some (tx9 a1 a2 a3 a4 a5 a6 a7 R W))
    (hF : E 100145 [tx9 a1 a2 a3 a4 a5 a6 a7 R W] = some (tx9 a1 a2 a3 a4 a5 a6 a7 R W))
    (hsp : E 335 [st1 C, tx9 a1 a2 a3 a4 a5 a6 a7 R W, k, v] = some (.tup [tx9 y1 y2 y3 y4 y5 y6 y7 Y Z, .bool b]))
    (him : E 334 [st1 C, tx9 a1 a2 a3 a4 a5 a6 a7 R W, k, v] = some (.tup [tx9 y1 y2 y3 y4 y5 y6 y7 Y Z, .bool b]))
    (hif : E 100334 [st1 C, tx9 a1 a2 a3 a4 a5 a6 a7 R W, k, v] = some (.tup [tx9 y1 y2 y3 y4 y5 y6 y7 Y Z, .bool b]))
    (he1 : E 177 [tx9 a1 a2 a3 a4 a5 a6 a7 R W, tx9 a1 a2 a3 a4 a5 a6 a7 R W] = some (.bool true))
    (he2 : E 177 [tx9 y1 y2 y3 y4 y5 y6 y7 Y Z, tx9 y1 y2 y3 y4 y5 y6 y7 Y Z] = some (.bool true))
    (m0 : E 200121 [.agg [.tup [.sl 1 C]], .int .i64 1] = some (.tup [.int .i64 c0, .sl 1 C2]))
    (m1 : E 200095 [.agg [.tup [.sl 2 R]], .int .i64 c0] = some (.tup [.int .i64 c1, .sl 2 R2]))
    (m2 : E 200232 [.agg [.tup [.sl 2 W]], .int .i64 c1] = some (.tup [.int .i64 c2, .sl 2 W2]))
    (m3 : E 200095 [.agg [.tup [.sl 2 Y]], .int .i64 1] = some (.tup [.int .i64 d1, .sl 2 Y2]))
    (m4 : E 200232 [.agg [.tup [.sl 2 Z]], .int .i64 d1] = some (.tup [.int .i64 d2, .sl 2 Z2]))
    (hh : E 205 [tx9 y1 y2 y3 y4 y5 y6 y7 Y2 Z2, .int .i64 1] = some (.int .i64 d2)) : E 333 [st1 C, tx9 a1 a2 a3 a4 a5 a6 a7 R W, k, v] = some (.bool true) := by
  rw [f24_E h]
  have nt : ∀ (a1 a2 a3 a4 a5 a6 a7 : Int) (R W : List U) (K : U → Option U), U.noTup (tx9 a1 a2 a3 a4 a5 a6 a7 R W) K = K (tx9 a1 a2 a3 a4 a5 a6 a7 R W) := fun _ _ _ _ _ _ _ _ _ _ => rfl
  have av : ∀ (a1 a2 a3 a4 a5 a6 a7 : Int) (R W : List U) (K : U → Option U), U.asVar true 9 (tx9 a1 a2 a3 a4 a5 a6 a7 R W) K = K (tx9 a1 a2 a3 a4 a5 a6 a7 R W) := fun _ _ _ _ _ _ _ _ _ _ => rfl
  have ag : ∀ (a1 a2 a3 a4 a5 a6 a7 : Int) (R W : List U) (K : List U → Option U), U.asAgg (tx9 a1 a2 a3 a4 a5 a6 a7 R W) K = K [.int .i64 a1, .int .i64 a2, .int .i64 a3, .int .i64 a4, .int .i64 a5, .int .i64 a6, .int .i64 a7, .sl 2 R, .sl 2 W] := fun _ _ _ _ _ _ _ _ _ _ => rfl
  have nts : ∀ (C : List U) (K : U → Option U), U.noTup (st1 C) K = K (st1 C) := fun _ _ => rfl
  have avs : ∀ (C : List U) (K : U → Option U), U.asVar true 1 (st1 C) K = K (st1 C) := fun _ _ => rfl
  have ags : ∀ (C : List U) (K : List U → Option U), U.asAgg (st1 C) K = K [.sl 1 C] := fun _ _ => rfl
  have sz : ∀ (a1 a2 a3 a4 a5 a6 a7 : Int) (R W : List U), (tx9 a1 a2 a3 a4 a5 a6 a7 R W).size = 9 := fun _ _ _ _ _ _ _ _ _ => rfl
  have fl : ∀ (b : Bool) (K : U → Option U), U.asFlat (.bool b) K = K (.bool b) := fun _ _ => rfl
  have fi : ∀ (n : Int) (K : U → Option U), U.asFlat (.int .i64 n) K = K (.int .i64 n) := fun _ _ => rfl
  have mu1 : ∀ (y : U) (ys : List U) (K : U → List U → Option U), U.asMut 1 (.tup [y, .sl 1 ys]) K = K y ys := fun _ _ _ => rfl
  have mu : ∀ (y : U) (ys : List U) (K : U → List U → Option U), U.asMut 2 (.tup [y, .sl 2 ys]) K = K y ys := fun _ _ _ => rfl
  have at2 : ∀ (us : List U) (K : List U → Option U), U.asTup (.tup us) K = K us := fun _ _ => rfl
  have pa : ∀ n : Int, partable (.val (.int .i64 n)) = true := fun _ => rfl
  have eb : ∀ b : Bool, U.eqv 0 (.bool b) (.bool b) = some true := fun b => by cases b <;> rfl
  rw [nts, nt, avs, s1, Option.bind_some, bin_lss, Option.bind_some, asBool_bool, if_neg (by simpa using n3), av, s2, Option.bind_some, bin_lss, Option.bind_some, asBool_bool, if_neg (by simpa using m3'), avs, hs, Option.bind_some, av, ht, Option.bind_some, hsp, Option.bind_some, part_tup, List.getElem?_cons_zero, Option.bind_some, part_tup, List.getElem?_cons_succ, List.getElem?_cons_zero, Option.bind_some, nt, sz, if_pos rfl, avs, hsF, Option.bind_some, nts, ags]
  show (E 100145 [tx9 a1 a2 a3 a4 a5 a6 a7 R W]).bind _ = _
  rw [hF, Option.bind_some, nt, ag]
  show (E 100334 [st1 C, tx9 a1 a2 a3 a4 a5 a6 a7 R W, k, v]).bind _ = _
  rw [hif, Option.bind_some, at2]
  show (E 177 [tx9 y1 y2 y3 y4 y5 y6 y7 Y Z, tx9 y1 y2 y3 y4 y5 y6 y7 Y Z]).bind _ = _
  rw [he2, Option.bind_some, fl, un_not, Option.bind_some, asBool_bool, if_neg (by simp), eb, Option.bind_some, asBool_bool, if_neg (by simp), avs, hs, Option.bind_some]
  show (E 97 [st1 C, st1 C]).bind _ = _
  rw [hse, Option.bind_some, fl, un_not, Option.bind_some, asBool_bool, if_neg (by simp), av, ht, Option.bind_some]
  show (E 177 [tx9 a1 a2 a3 a4 a5 a6 a7 R W, tx9 a1 a2 a3 a4 a5 a6 a7 R W]).bind _ = _
  rw [he1, Option.bind_some, fl, un_not, Option.bind_some, asBool_bool, if_neg (by simp), m0, Option.bind_some, mu1, fi, if_pos (pa _), m1, Option.bind_some, mu, fi, m2, Option.bind_some, mu, fi, if_pos (pa _), bin_lss, Option.bind_some, asBool_bool, if_neg (by simpa using n4), av]
  show (E 177 [tx9 y1 y2 y3 y4 y5 y6 y7 Y Z, tx9 y1 y2 y3 y4 y5 y6 y7 Y Z]).bind _ = _
  rw [he2, Option.bind_some, fl, un_not, Option.bind_some, asBool_bool, if_neg (by simp), Option.bind_some, asBool_bool, if_neg (by simp), m3, Option.bind_some, mu, fi, m4, Option.bind_some, mu, fi, if_pos (pa _)]
  show (E 205 [tx9 y1 y2 y3 y4 y5 y6 y7 Y2 Z2, _]).bind _ = _
  rw [hh, Option.bind_some, fi, bin_lss, Option.bind_some, asBool_bool, if_neg (by simpa using n5), bin_neq, Option.bind_some, asBool_bool, if_neg (by simp), avs, hs, Option.bind_some, av, ht, Option.bind_some, him, Option.bind_some, part_tup, List.getElem?_cons_zero, Option.bind_some, part_tup, List.getElem?_cons_succ, List.getElem?_cons_zero, Option.bind_some, nt, sz, if_pos rfl, av, av, he2, Option.bind_some, un_not, Option.bind_some, asBool_bool, if_neg (by simp), eb, Option.bind_some, asBool_bool, if_neg (by simp)]
  show (E 205 [tx9 y1 y2 y3 y4 y5 y6 y7 Y2 Z2, _]).bind _ = _
  rw [hh, Option.bind_some, fi, bin_lss, Option.bind_some, asBool_bool, if_neg (by simpa using n5), bin_neq, Option.bind_some, asBool_bool, if_neg (by simp)]
theorem law_TrackWrite (h : G_f24 E) (us : List U) (hus : Fits.fits [shStore, shTransaction, shI, shI] us) : E 333 us = some (.bool true) := by
  obtain ⟨u0, us1, rfl, h0, hus1⟩ := fits_cons hus
  obtain ⟨u1, us2, rfl, h1, hus2⟩ := fits_cons hus1
  obtain ⟨u2, us3, rfl, h2, hus3⟩ := fits_cons hus2
  obtain ⟨u3, us4, rfl, h3, hus4⟩ := fits_cons hus3
  obtain rfl := fits_nil hus4
  obtain ⟨s, rfl, hfs⟩ := fits_Store _ h0
  obtain ⟨x, rfl, hf⟩ := fits_Transaction _ h1
  obtain ⟨k, rfl, _⟩ := fits_int h2
  obtain ⟨v, rfl, _⟩ := fits_int h3
  have s1 := f42_is h.c_f42 s hfs 1048576 (by omega) (by omega)
  rcases Store.sz_szs s 1048576 (by omega) (by omega) with n1 | ⟨oks, n1, n2⟩
  · rw [f24_E h]
    rw [show ∀ K : U → Option U, U.noTup s.u K = K s.u from fun _ => rfl, show ∀ K : U → Option U, U.noTup x.u K = K x.u from fun _ => rfl, show ∀ K : U → Option U, U.asVar true 1 s.u K = K s.u from fun _ => rfl, s1, Option.bind_some, bin_lss, Option.bind_some, asBool_bool, if_pos (by simpa using n1)]
  have n3 : ¬ s.sz 1048576 < 0 := by omega
  have hsum := sumLen_sz s 1048576 (by omega) n1
  have hsn := sumLen_nonneg s.chains
  generalize s.sz 1048576 = n at *
  have s2 := f43_is h.c_f43 x hf n (by omega) (by omega)
  rcases Transaction.sz_szs x n (by omega) (by omega) with m1 | ⟨ok, m1, m2⟩
  · rw [f24_E h]
    rw [show ∀ K : U → Option U, U.noTup s.u K = K s.u from fun _ => rfl, show ∀ K : U → Option U, U.noTup x.u K = K x.u from fun _ => rfl, show ∀ K : U → Option U, U.asVar true 1 s.u K = K s.u from fun _ => rfl, s1, Option.bind_some, bin_lss, Option.bind_some, asBool_bool, if_neg (by simpa using n3), Transaction.u_var, s2, Option.bind_some, bin_lss, Option.bind_some, asBool_bool, if_pos (by simpa using m1)]
  have m3 : ¬ x.sz n < 0 := by omega
  have ok' := trackW_ok ok s k v
  have hs := f50_is h.c_f50 s oks
  have hsF := f51_is h.c_f51 s oks
  have hse := f27_is h.c_f27 s s oks oks
  have ht := f52_is h.c_f52 x ok
  have hF := f53_is h.c_f53 x ok
  have hsp := f72_is h.c_f72 s oks x ok k v
  have him := f10_is h.c_f10 s oks x ok k v
  have hif := f11_is h.c_f11 s oks x ok k v
  have he1 := f28_is h.c_f28 x x ok ok
  have he2 := f28_is h.c_f28 (x.trackW s k v).1 (x.trackW s k v).1 ok' ok'
  have q0 := f38_is h.c_f38 s.chains oks.1 oks.2 1 (by omega) (by rw [sumN_sumLen]; omega)
  rw [sumN_sumLen] at q0
  have hxr := ok.1
  have hxw := ok.2
  have q1 := f37_is h.c_f37 x.reads ok.1 (1 + 5 * sumLen s.chains) (by omega) (by omega)
  have q2 := f40_is h.c_f40 x.writes ok.2 (1 + 5 * sumLen s.chains + 2 * x.reads.length) (by omega) (by omega)
  have q3 := f37_is h.c_f37 (x.trackW s k v).1.reads ok'.1 1 (by omega) (by omega)
  have q4 := f40_is h.c_f40 (x.trackW s k v).1.writes ok'.2 (1 + 2 * (x.trackW s k v).1.reads.length) (by have := ok'.1; omega) (by have := ok'.1; omega)
  have hh := f35_is h.c_f35 (x.trackW s k v).1 ok'
  have n4 : ¬ (1 + 5 * sumLen s.chains + 2 * (x.reads.length : Int) + 2 * (x.writes.length : Int)) < 0 := by omega
  have n5 : ¬ (1 + 2 * ((x.trackW s k v).1.reads.length : Int) + 2 * ((x.trackW s k v).1.writes.length : Int)) < 0 := by omega
  rw [decide_eq_true rfl] at he1 he2 hse
  generalize x.trackW s k v = y at *
  obtain ⟨y, b⟩ := y
  exact trackW_core h n3 m3 n4 n5 s1 s2 hs hsF hse ht hF hsp him hif he1 he2 q0 q1 q2 q3 q4 hh
end Go.Proofs.Ytpbogagoflpdfaa.Am
