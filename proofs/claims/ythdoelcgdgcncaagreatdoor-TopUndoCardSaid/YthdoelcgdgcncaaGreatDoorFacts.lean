/- What the rules need of the types. No condition. -/
import Derived.Test.YthdoelcgdgcncaaGreatDoorCode
import Derived.Test.YthdoelcgdgcncaaGreatDoorCan5
set_option maxRecDepth 100000
namespace Go.Proofs.YthdoelcgdgcncaaGreatDoor
open Go Go.Can
variable {β : Type} {call : CallT β} {t : T CV} {h : T Blk} {nx : Nat} {k : K β}
theorem ty3 : tab.types.get 3 = some (mkTI Tryz.t3 Tryz.t3.desc true) := by kernel_rfl
theorem ty4 : tab.types.get 4 = some (mkTI Tryz.t4 Tryz.t4.desc true) := by kernel_rfl
theorem ty22 : tab.types.get 22 = some (mkTI Tryz.t22 Tryz.t22.desc false) := by kernel_rfl
theorem ty23 : tab.types.get 23 = some (mkTI Tryz.t23 Tryz.t23.desc true) := by kernel_rfl
theorem ty24 : tab.types.get 24 = some (mkTI Tryz.t24 Tryz.t24.desc true) := by kernel_rfl
theorem ty26 : tab.types.get 26 = some (mkTI Tryz.t26 Tryz.t25.desc true) := by kernel_rfl
theorem ty27 : tab.types.get 27 = some (mkTI Tryz.t27 Tryz.t27.desc true) := by kernel_rfl
theorem ty29 : tab.types.get 29 = some (mkTI Tryz.t29 Tryz.t28.desc true) := by kernel_rfl
theorem ty30 : tab.types.get 30 = some (mkTI Tryz.t30 Tryz.t3.desc true) := by kernel_rfl
theorem ty34 : tab.types.get 34 = some (mkTI Tryz.t34 Tryz.t34.desc false) := by kernel_rfl
theorem ty38 : tab.types.get 38 = some (mkTI Tryz.t38 Tryz.t37.desc true) := by kernel_rfl
theorem ty46 : tab.types.get 46 = some (mkTI Tryz.t46 Tryz.t45.desc false) := by kernel_rfl
theorem ty47 : tab.types.get 47 = some (mkTI Tryz.t47 Tryz.t47.desc true) := by kernel_rfl
theorem ty80 : tab.types.get 80 = some (mkTI Tryz.t80 Tryz.t80.desc false) := by kernel_rfl
theorem ty107 : tab.types.get 107 = some (mkTI Tryz.t107 Tryz.t107.desc false) := by kernel_rfl
theorem ty113 : tab.types.get 113 = some (mkTI Tryz.t113 Tryz.t113.desc false) := by kernel_rfl
theorem ty115 : tab.types.get 115 = some (mkTI Tryz.t115 Tryz.t115.desc false) := by kernel_rfl
theorem ty116 : tab.types.get 116 = some (mkTI Tryz.t116 Tryz.t116.desc false) := by kernel_rfl
theorem ty150 : tab.types.get 150 = some (mkTI Tryz.t150 Tryz.t150.desc true) := by kernel_rfl
theorem ld3 (a : Operand) : evOp (.load 3 a) tab call t h nx k = evO a tab t fun a => ldK1 a h fun v => k v h nx := ev_load1 ty3 (by kernel_rfl) a
theorem ld4 (a : Operand) : evOp (.load 4 a) tab call t h nx k = evO a tab t fun a => ldK1 a h fun v => k v h nx := ev_load1 ty4 (by kernel_rfl) a
theorem ld22 (a : Operand) : evOp (.load 22 a) tab call t h nx k = evO a tab t fun a => ldK1 a h fun v => k v h nx := ev_load1 ty22 (by kernel_rfl) a
theorem ld23 (a : Operand) : evOp (.load 23 a) tab call t h nx k = evO a tab t fun a => ldK1 a h fun v => k v h nx := ev_load1 ty23 (by kernel_rfl) a
theorem ld27 (a : Operand) : evOp (.load 27 a) tab call t h nx k = evO a tab t fun a => ldK1 a h fun v => k v h nx := ev_load1 ty27 (by kernel_rfl) a
theorem ld34 (a : Operand) : evOp (.load 34 a) tab call t h nx k = evO a tab t fun a => ldK1 a h fun v => k v h nx := ev_load1 ty34 (by kernel_rfl) a
theorem ld46 (a : Operand) : evOp (.load 46 a) tab call t h nx k = evO a tab t fun a => ldK1 a h fun v => k v h nx := ev_load1 ty46 (by kernel_rfl) a
theorem ld80 (a : Operand) : evOp (.load 80 a) tab call t h nx k = evO a tab t fun a => ldK1 a h fun v => k v h nx := ev_load1 ty80 (by kernel_rfl) a
theorem ld24 (a : Operand) : evOp (.load 24 a) tab call t h nx k = evO a tab t fun a => ldKn 3 a h fun v => k v h nx := ev_loadn ty24 (by kernel_rfl) (by kernel_rfl) a
theorem ld26 (a : Operand) : evOp (.load 26 a) tab call t h nx k = evO a tab t fun a => ldKn 4 a h fun v => k v h nx := ev_loadn ty26 (by kernel_rfl) (by kernel_rfl) a
theorem ld29 (a : Operand) : evOp (.load 29 a) tab call t h nx k = evO a tab t fun a => ldKn 5 a h fun v => k v h nx := ev_loadn ty29 (by kernel_rfl) (by kernel_rfl) a
theorem ld38 (a : Operand) : evOp (.load 38 a) tab call t h nx k = evO a tab t fun a => ldKn 3 a h fun v => k v h nx := ev_loadn ty38 (by kernel_rfl) (by kernel_rfl) a
theorem ld47 (a : Operand) : evOp (.load 47 a) tab call t h nx k = evO a tab t fun a => ldKn 8 a h fun v => k v h nx := ev_loadn ty47 (by kernel_rfl) (by kernel_rfl) a
theorem st3 (a x : Operand) : evOp (.store 3 a x) tab call t h nx k = evO a tab t fun a => ptrOf a fun b o => evO x tab t fun v => stK 1 b o v h fun h => k (.tup []) h nx := ev_store1 ty3 (by kernel_rfl) a x
theorem st4 (a x : Operand) : evOp (.store 4 a x) tab call t h nx k = evO a tab t fun a => ptrOf a fun b o => evO x tab t fun v => stK 1 b o v h fun h => k (.tup []) h nx := ev_store1 ty4 (by kernel_rfl) a x
theorem st23 (a x : Operand) : evOp (.store 23 a x) tab call t h nx k = evO a tab t fun a => ptrOf a fun b o => evO x tab t fun v => stK 1 b o v h fun h => k (.tup []) h nx := ev_store1 ty23 (by kernel_rfl) a x
theorem st24 (a x : Operand) : evOp (.store 24 a x) tab call t h nx k = evO a tab t fun a => ptrOf a fun b o => evO x tab t fun v => stK 3 b o v h fun h => k (.tup []) h nx := ev_store1 ty24 (by kernel_rfl) a x
theorem st29 (a x : Operand) : evOp (.store 29 a x) tab call t h nx k = evO a tab t fun a => ptrOf a fun b o => evO x tab t fun v => stK 5 b o v h fun h => k (.tup []) h nx := ev_store1 ty29 (by kernel_rfl) a x
theorem st38 (a x : Operand) : evOp (.store 38 a x) tab call t h nx k = evO a tab t fun a => ptrOf a fun b o => evO x tab t fun v => stK 3 b o v h fun h => k (.tup []) h nx := ev_store1 ty38 (by kernel_rfl) a x
theorem st47 (a x : Operand) : evOp (.store 47 a x) tab call t h nx k = evO a tab t fun a => ptrOf a fun b o => evO x tab t fun v => stK 8 b o v h fun h => k (.tup []) h nx := ev_store1 ty47 (by kernel_rfl) a x
theorem rc29 (t : T CV) (h : T Blk) (a : Tmp) (l : List ResultVar) (k : List CV → Res β) : resultsK tab t h (.cell a 29 :: l) k = optK 161 (t.get a) fun a => resP a fun b o => ldKn 5 (.ptr b o) h fun v => resultsK tab t h l fun vs => k (v :: vs) := resC ty29 (by kernel_rfl) (by kernel_rfl) t h a l k
theorem rc38 (t : T CV) (h : T Blk) (a : Tmp) (l : List ResultVar) (k : List CV → Res β) : resultsK tab t h (.cell a 38 :: l) k = optK 161 (t.get a) fun a => resP a fun b o => ldKn 3 (.ptr b o) h fun v => resultsK tab t h l fun vs => k (v :: vs) := resC ty38 (by kernel_rfl) (by kernel_rfl) t h a l k
theorem rc47 (t : T CV) (h : T Blk) (a : Tmp) (l : List ResultVar) (k : List CV → Res β) : resultsK tab t h (.cell a 47 :: l) k = optK 161 (t.get a) fun a => resP a fun b o => ldKn 8 (.ptr b o) h fun v => resultsK tab t h l fun vs => k (v :: vs) := resC ty47 (by kernel_rfl) (by kernel_rfl) t h a l k
theorem al23 : evOp (.alloc 23) tab call t h nx k = k (.ptr nx 0) (h.set nx (newB [.int .u64 0])) (nx + 1) := ev_alloc1 ty23 (by kernel_rfl) rfl
theorem al29 : evOp (.alloc 29) tab call t h nx k = k (.ptr nx 0) (h.set nx (newB [.int .i8 0, .int .u64 0, .int .i64 0, .bool false, .int .i64 0])) (nx + 1) := ev_alloc1 ty29 (by kernel_rfl) rfl
theorem al38 : evOp (.alloc 38) tab call t h nx k = k (.ptr nx 0) (h.set nx (newB [.int .u64 0, .int .i64 0, .bool false])) (nx + 1) := ev_alloc1 ty38 (by kernel_rfl) rfl
theorem al47 : evOp (.alloc 47) tab call t h nx k = k (.ptr nx 0) (h.set nx (newB [.nilfn, .nilfn, .nilfn, .nilfn, .nilfn, .nilfn, .nilfn, .nilfn])) (nx + 1) := ev_alloc1 ty47 (by kernel_rfl) rfl
theorem fa38_0 (x : Operand) : evOp (.fieldAddr 38 x 0) tab call t h nx k = evO x tab t fun a => ptrK a 0 fun v => k v h nx := ev_field (by kernel_rfl) x
theorem fa38_1 (x : Operand) : evOp (.fieldAddr 38 x 1) tab call t h nx k = evO x tab t fun a => ptrK a 1 fun v => k v h nx := ev_field (by kernel_rfl) x
theorem fa38_2 (x : Operand) : evOp (.fieldAddr 38 x 2) tab call t h nx k = evO x tab t fun a => ptrK a 2 fun v => k v h nx := ev_field (by kernel_rfl) x
theorem fa29_0 (x : Operand) : evOp (.fieldAddr 29 x 0) tab call t h nx k = evO x tab t fun a => ptrK a 0 fun v => k v h nx := ev_field (by kernel_rfl) x
theorem fa29_1 (x : Operand) : evOp (.fieldAddr 29 x 1) tab call t h nx k = evO x tab t fun a => ptrK a 1 fun v => k v h nx := ev_field (by kernel_rfl) x
theorem fa29_2 (x : Operand) : evOp (.fieldAddr 29 x 2) tab call t h nx k = evO x tab t fun a => ptrK a 2 fun v => k v h nx := ev_field (by kernel_rfl) x
theorem fa29_3 (x : Operand) : evOp (.fieldAddr 29 x 3) tab call t h nx k = evO x tab t fun a => ptrK a 3 fun v => k v h nx := ev_field (by kernel_rfl) x
theorem fa29_4 (x : Operand) : evOp (.fieldAddr 29 x 4) tab call t h nx k = evO x tab t fun a => ptrK a 4 fun v => k v h nx := ev_field (by kernel_rfl) x
theorem fa26_0 (x : Operand) : evOp (.fieldAddr 26 x 0) tab call t h nx k = evO x tab t fun a => ptrK a 0 fun v => k v h nx := ev_field (by kernel_rfl) x
theorem fa26_1 (x : Operand) : evOp (.fieldAddr 26 x 1) tab call t h nx k = evO x tab t fun a => ptrK a 1 fun v => k v h nx := ev_field (by kernel_rfl) x
theorem ix22 (x y : Operand) : evOp (.indexAddr 22 x y) tab call t h nx k = evO x tab t fun a => evO y tab t fun i => natOf i fun i => ixK (none, 3) a i fun v => k v h nx := ev_index (by kernel_rfl) x y
theorem ix24 (x y : Operand) : evOp (.indexAddr 24 x y) tab call t h nx k = evO x tab t fun a => evO y tab t fun i => natOf i fun i => ixK (some 3, 1) a i fun v => k v h nx := ev_index (by kernel_rfl) x y
theorem ix47 (x y : Operand) : evOp (.indexAddr 47 x y) tab call t h nx k = evO x tab t fun a => evO y tab t fun i => natOf i fun i => ixK (some 8, 1) a i fun v => k v h nx := ev_index (by kernel_rfl) x y
theorem ix116 (x y : Operand) : evOp (.indexAddr 116 x y) tab call t h nx k = evO x tab t fun a => evO y tab t fun i => natOf i fun i => ixK (none, 1) a i fun v => k v h nx := ev_index (by kernel_rfl) x y
theorem ln22 (tys : List TypeId) (b o n : Nat) (cap : Cap) : opBuiltin .len (22 :: tys) [.slice b o n cap] tab h nx k = k (.int .i64 (n : Int)) h nx := len_slice ty22 (e := 38) (by kernel_rfl) tys b o n cap
theorem lz22 (tys : List TypeId) : opBuiltin .len (22 :: tys) [.nilslice] tab h nx k = k (.int .i64 0) h nx := len_nilslice ty22 (e := 38) (by kernel_rfl) tys
theorem ln116 (tys : List TypeId) (b o n : Nat) (cap : Cap) : opBuiltin .len (116 :: tys) [.slice b o n cap] tab h nx k = k (.int .i64 (n : Int)) h nx := len_slice ty116 (e := 34) (by kernel_rfl) tys b o n cap
theorem lz116 (tys : List TypeId) : opBuiltin .len (116 :: tys) [.nilslice] tab h nx k = k (.int .i64 0) h nx := len_nilslice ty116 (e := 34) (by kernel_rfl) tys
theorem cn3_23 (x : Operand) : evOp (.convert 3 23 x) tab call t h nx k = evO x tab t fun v => convK .u64 v h nx k := ev_conv ty3 ty23 (k1 := .i64) (by kernel_rfl) (by kernel_rfl) x
theorem cn23_3 (x : Operand) : evOp (.convert 23 3 x) tab call t h nx k = evO x tab t fun v => convK .i64 v h nx k := ev_conv ty23 ty3 (k1 := .u64) (by kernel_rfl) (by kernel_rfl) x
theorem cn3_150 (x : Operand) : evOp (.convert 3 150 x) tab call t h nx k = evO x tab t fun v => convK .u64 v h nx k := ev_conv ty3 ty150 (k1 := .i64) (by kernel_rfl) (by kernel_rfl) x
theorem cn150_3 (x : Operand) : evOp (.convert 150 3 x) tab call t h nx k = evO x tab t fun v => convK .i64 v h nx k := ev_conv ty150 ty3 (k1 := .u64) (by kernel_rfl) (by kernel_rfl) x
theorem pl38_0 : partPl tab 38 0 = some (0, 1) := by kernel_rfl
theorem pl38_1 : partPl tab 38 1 = some (1, 1) := by kernel_rfl
theorem pl38_2 : partPl tab 38 2 = some (2, 1) := by kernel_rfl
theorem pl29_0 : partPl tab 29 0 = some (0, 1) := by kernel_rfl
theorem pl29_1 : partPl tab 29 1 = some (1, 1) := by kernel_rfl
theorem pl29_2 : partPl tab 29 2 = some (2, 1) := by kernel_rfl
theorem pl29_3 : partPl tab 29 3 = some (3, 1) := by kernel_rfl
theorem pl29_4 : partPl tab 29 4 = some (4, 1) := by kernel_rfl
theorem pl24_0 : partPl tab 24 0 = some (0, 1) := by kernel_rfl
theorem pl24_1 : partPl tab 24 1 = some (1, 1) := by kernel_rfl
theorem pl24_2 : partPl tab 24 2 = some (2, 1) := by kernel_rfl
theorem pl47_0 : partPl tab 47 0 = some (0, 1) := by kernel_rfl
theorem pl47_1 : partPl tab 47 1 = some (1, 1) := by kernel_rfl
theorem pl47_2 : partPl tab 47 2 = some (2, 1) := by kernel_rfl
theorem pl47_3 : partPl tab 47 3 = some (3, 1) := by kernel_rfl
theorem pl47_4 : partPl tab 47 4 = some (4, 1) := by kernel_rfl
theorem pl47_5 : partPl tab 47 5 = some (5, 1) := by kernel_rfl
theorem pl47_6 : partPl tab 47 6 = some (6, 1) := by kernel_rfl
theorem pl47_7 : partPl tab 47 7 = some (7, 1) := by kernel_rfl
theorem pl22_0 : partPl tab 22 0 = some (0, 3) := by kernel_rfl
theorem pl22_1 : partPl tab 22 1 = some (3, 3) := by kernel_rfl
theorem pl22_2 : partPl tab 22 2 = some (6, 3) := by kernel_rfl
theorem pl116_0 : partPl tab 116 0 = some (0, 1) := by kernel_rfl
theorem pl116_1 : partPl tab 116 1 = some (1, 1) := by kernel_rfl
theorem bd38 (ps : Array (Nat × Operand)) (hps : ps.toList.all (fun p => (partPl tab 38 p.1).isSome) = true) : evOp (.build 38 ps) tab call t h nx k = fillS (partPl tab 38) tab t ps.toList [.int .u64 0, .int .i64 0, .bool false] fun cs => k (.agg cs) h nx := ev_build_st ty38 rfl (by kernel_rfl) (by kernel_rfl) hps
theorem bd29 (ps : Array (Nat × Operand)) (hps : ps.toList.all (fun p => (partPl tab 29 p.1).isSome) = true) : evOp (.build 29 ps) tab call t h nx k = fillS (partPl tab 29) tab t ps.toList [.int .i8 0, .int .u64 0, .int .i64 0, .bool false, .int .i64 0] fun cs => k (.agg cs) h nx := ev_build_st ty29 rfl (by kernel_rfl) (by kernel_rfl) hps
theorem bd38_0 : evOp (.build 38 #[]) tab call t h nx k = k (.agg [.int .u64 0, .int .i64 0, .bool false]) h nx := (bd38 #[] rfl).trans (by rw [fillS_nil])
theorem bd29_0 : evOp (.build 29 #[]) tab call t h nx k = k (.agg [.int .i8 0, .int .u64 0, .int .i64 0, .bool false, .int .i64 0]) h nx := (bd29 #[] rfl).trans (by rw [fillS_nil])
theorem bd29a (x0 x1 x2 x3 : Operand) : evOp (.build 29 #[(0, x0), (1, x1), (2, x2), (3, x3)]) tab call t h nx k = fillS (partPl tab 29) tab t [(0, x0), (1, x1), (2, x2), (3, x3)] [.int .i8 0, .int .u64 0, .int .i64 0, .bool false, .int .i64 0] fun cs => k (.agg cs) h nx := bd29 _ (by simp [pl29_0, pl29_1, pl29_2, pl29_3])
theorem bd29b (x0 : Operand) : evOp (.build 29 #[(0, x0)]) tab call t h nx k = fillS (partPl tab 29) tab t [(0, x0)] [.int .i8 0, .int .u64 0, .int .i64 0, .bool false, .int .i64 0] fun cs => k (.agg cs) h nx := bd29 _ (by simp [pl29_0])
theorem bd29c (x0 x4 : Operand) : evOp (.build 29 #[(0, x0), (4, x4)]) tab call t h nx k = fillS (partPl tab 29) tab t [(0, x0), (4, x4)] [.int .i8 0, .int .u64 0, .int .i64 0, .bool false, .int .i64 0] fun cs => k (.agg cs) h nx := bd29 _ (by simp [pl29_0, pl29_4])
theorem bd38a (x0 x1 x2 : Operand) : evOp (.build 38 #[(0, x0), (1, x1), (2, x2)]) tab call t h nx k = fillS (partPl tab 38) tab t [(0, x0), (1, x1), (2, x2)] [.int .u64 0, .int .i64 0, .bool false] fun cs => k (.agg cs) h nx := bd38 _ (by simp [pl38_0, pl38_1, pl38_2])
theorem bd24 (ps : Array (Nat × Operand)) : evOp (.build 24 ps) tab call t h nx k = fillS (partPl tab 24) tab t ps.toList [.int .u64 0, .int .u64 0, .int .u64 0] fun cs => k (.agg cs) h nx := ev_build_ar ty24 (n := 3) (e := 23) (by kernel_rfl) ty23 (by kernel_rfl)
theorem bd47 (ps : Array (Nat × Operand)) : evOp (.build 47 ps) tab call t h nx k = fillS (partPl tab 47) tab t ps.toList [.nilfn, .nilfn, .nilfn, .nilfn, .nilfn, .nilfn, .nilfn, .nilfn] fun cs => k (.agg cs) h nx := ev_build_ar ty47 (n := 8) (e := 46) (by kernel_rfl) ty46 (by kernel_rfl)
theorem bs22_0 (ps : Array (Nat × Operand)) : evOp (.buildSlice 22 0 ps) tab call t h nx k = fillS (partPl tab 22) tab t ps.toList [] fun cs => newCells cs h nx fun b h nx => k (.slice b 0 0 (.known 0)) h nx := ev_buildSlice ty22 (e := 38) (by kernel_rfl) ty38 (by kernel_rfl) (by kernel_rfl)
theorem bs22_1 (ps : Array (Nat × Operand)) : evOp (.buildSlice 22 1 ps) tab call t h nx k = fillS (partPl tab 22) tab t ps.toList [.int .u64 0, .int .i64 0, .bool false] fun cs => newCells cs h nx fun b h nx => k (.slice b 0 1 (.known 1)) h nx := ev_buildSlice ty22 (e := 38) (by kernel_rfl) ty38 (by kernel_rfl) (by kernel_rfl)
theorem bs22_2 (ps : Array (Nat × Operand)) : evOp (.buildSlice 22 2 ps) tab call t h nx k = fillS (partPl tab 22) tab t ps.toList [.int .u64 0, .int .i64 0, .bool false, .int .u64 0, .int .i64 0, .bool false] fun cs => newCells cs h nx fun b h nx => k (.slice b 0 2 (.known 2)) h nx := ev_buildSlice ty22 (e := 38) (by kernel_rfl) ty38 (by kernel_rfl) (by kernel_rfl)
theorem bs22_3 (ps : Array (Nat × Operand)) : evOp (.buildSlice 22 3 ps) tab call t h nx k = fillS (partPl tab 22) tab t ps.toList [.int .u64 0, .int .i64 0, .bool false, .int .u64 0, .int .i64 0, .bool false, .int .u64 0, .int .i64 0, .bool false] fun cs => newCells cs h nx fun b h nx => k (.slice b 0 3 (.known 3)) h nx := ev_buildSlice ty22 (e := 38) (by kernel_rfl) ty38 (by kernel_rfl) (by kernel_rfl)
theorem bs116_1 (ps : Array (Nat × Operand)) : evOp (.buildSlice 116 1 ps) tab call t h nx k = fillS (partPl tab 116) tab t ps.toList [.nilfn] fun cs => newCells cs h nx fun b h nx => k (.slice b 0 1 (.known 1)) h nx := ev_buildSlice ty116 (e := 34) (by kernel_rfl) ty34 (by kernel_rfl) (by kernel_rfl)
theorem bs116_2 (ps : Array (Nat × Operand)) : evOp (.buildSlice 116 2 ps) tab call t h nx k = fillS (partPl tab 116) tab t ps.toList [.nilfn, .nilfn] fun cs => newCells cs h nx fun b h nx => k (.slice b 0 2 (.known 2)) h nx := ev_buildSlice ty116 (e := 34) (by kernel_rfl) ty34 (by kernel_rfl) (by kernel_rfl)
end Go.Proofs.YthdoelcgdgcncaaGreatDoor
/- What the rules need of the types. No condition. -/
namespace Go.Proofs.YthdoelcgdgcncaaGreatDoor.I
open Go Go.Can
variable {β : Type} {call : CallT β} {t : T CV} {h : T Blk} {nx : Nat} {k : K β}
theorem ty3 : tab.types.get 3 = some (mkTI Tryz.t3 Tryz.t3.desc true) := by kernel_rfl
theorem ty4 : tab.types.get 4 = some (mkTI Tryz.t4 Tryz.t4.desc true) := by kernel_rfl
theorem ty22 : tab.types.get 22 = some (mkTI Tryz.t22 Tryz.t22.desc false) := by kernel_rfl
theorem ty23 : tab.types.get 23 = some (mkTI Tryz.t23 Tryz.t23.desc true) := by kernel_rfl
theorem ty24 : tab.types.get 24 = some (mkTI Tryz.t24 Tryz.t24.desc true) := by kernel_rfl
theorem ty26 : tab.types.get 26 = some (mkTI Tryz.t26 Tryz.t25.desc true) := by kernel_rfl
theorem ty27 : tab.types.get 27 = some (mkTI Tryz.t27 Tryz.t27.desc true) := by kernel_rfl
theorem ty29 : tab.types.get 29 = some (mkTI Tryz.t29 Tryz.t28.desc true) := by kernel_rfl
theorem ty30 : tab.types.get 30 = some (mkTI Tryz.t30 Tryz.t3.desc true) := by kernel_rfl
theorem ty34 : tab.types.get 34 = some (mkTI Tryz.t34 Tryz.t34.desc false) := by kernel_rfl
theorem ty38 : tab.types.get 38 = some (mkTI Tryz.t38 Tryz.t37.desc true) := by kernel_rfl
theorem ty46 : tab.types.get 46 = some (mkTI Tryz.t46 Tryz.t45.desc false) := by kernel_rfl
theorem ty47 : tab.types.get 47 = some (mkTI Tryz.t47 Tryz.t47.desc true) := by kernel_rfl
theorem ty80 : tab.types.get 80 = some (mkTI Tryz.t80 Tryz.t80.desc false) := by kernel_rfl
theorem ty107 : tab.types.get 107 = some (mkTI Tryz.t107 Tryz.t107.desc false) := by kernel_rfl
theorem ty113 : tab.types.get 113 = some (mkTI Tryz.t113 Tryz.t113.desc false) := by kernel_rfl
theorem ty115 : tab.types.get 115 = some (mkTI Tryz.t115 Tryz.t115.desc false) := by kernel_rfl
theorem ty116 : tab.types.get 116 = some (mkTI Tryz.t116 Tryz.t116.desc false) := by kernel_rfl
theorem ty150 : tab.types.get 150 = some (mkTI Tryz.t150 Tryz.t150.desc true) := by kernel_rfl
theorem ld3 (a : Operand) : evOp (.load 3 a) tab call t h nx k = evO a tab t fun a => ldK1 a h fun v => k v h nx := ev_load1 ty3 (by kernel_rfl) a
theorem ld4 (a : Operand) : evOp (.load 4 a) tab call t h nx k = evO a tab t fun a => ldK1 a h fun v => k v h nx := ev_load1 ty4 (by kernel_rfl) a
theorem ld22 (a : Operand) : evOp (.load 22 a) tab call t h nx k = evO a tab t fun a => ldK1 a h fun v => k v h nx := ev_load1 ty22 (by kernel_rfl) a
theorem ld23 (a : Operand) : evOp (.load 23 a) tab call t h nx k = evO a tab t fun a => ldK1 a h fun v => k v h nx := ev_load1 ty23 (by kernel_rfl) a
theorem ld27 (a : Operand) : evOp (.load 27 a) tab call t h nx k = evO a tab t fun a => ldK1 a h fun v => k v h nx := ev_load1 ty27 (by kernel_rfl) a
theorem ld34 (a : Operand) : evOp (.load 34 a) tab call t h nx k = evO a tab t fun a => ldK1 a h fun v => k v h nx := ev_load1 ty34 (by kernel_rfl) a
theorem ld46 (a : Operand) : evOp (.load 46 a) tab call t h nx k = evO a tab t fun a => ldK1 a h fun v => k v h nx := ev_load1 ty46 (by kernel_rfl) a
theorem ld80 (a : Operand) : evOp (.load 80 a) tab call t h nx k = evO a tab t fun a => ldK1 a h fun v => k v h nx := ev_load1 ty80 (by kernel_rfl) a
theorem ld24 (a : Operand) : evOp (.load 24 a) tab call t h nx k = evO a tab t fun a => ldKn 3 a h fun v => k v h nx := ev_loadn ty24 (by kernel_rfl) (by kernel_rfl) a
theorem ld26 (a : Operand) : evOp (.load 26 a) tab call t h nx k = evO a tab t fun a => ldKn 4 a h fun v => k v h nx := ev_loadn ty26 (by kernel_rfl) (by kernel_rfl) a
theorem ld29 (a : Operand) : evOp (.load 29 a) tab call t h nx k = evO a tab t fun a => ldKn 5 a h fun v => k v h nx := ev_loadn ty29 (by kernel_rfl) (by kernel_rfl) a
theorem ld38 (a : Operand) : evOp (.load 38 a) tab call t h nx k = evO a tab t fun a => ldKn 3 a h fun v => k v h nx := ev_loadn ty38 (by kernel_rfl) (by kernel_rfl) a
theorem ld47 (a : Operand) : evOp (.load 47 a) tab call t h nx k = evO a tab t fun a => ldKn 8 a h fun v => k v h nx := ev_loadn ty47 (by kernel_rfl) (by kernel_rfl) a
theorem st3 (a x : Operand) : evOp (.store 3 a x) tab call t h nx k = evO a tab t fun a => ptrOf a fun b o => evO x tab t fun v => stK 1 b o v h fun h => k (.tup []) h nx := ev_store1 ty3 (by kernel_rfl) a x
theorem st4 (a x : Operand) : evOp (.store 4 a x) tab call t h nx k = evO a tab t fun a => ptrOf a fun b o => evO x tab t fun v => stK 1 b o v h fun h => k (.tup []) h nx := ev_store1 ty4 (by kernel_rfl) a x
theorem st23 (a x : Operand) : evOp (.store 23 a x) tab call t h nx k = evO a tab t fun a => ptrOf a fun b o => evO x tab t fun v => stK 1 b o v h fun h => k (.tup []) h nx := ev_store1 ty23 (by kernel_rfl) a x
theorem st24 (a x : Operand) : evOp (.store 24 a x) tab call t h nx k = evO a tab t fun a => ptrOf a fun b o => evO x tab t fun v => stK 3 b o v h fun h => k (.tup []) h nx := ev_store1 ty24 (by kernel_rfl) a x
theorem st29 (a x : Operand) : evOp (.store 29 a x) tab call t h nx k = evO a tab t fun a => ptrOf a fun b o => evO x tab t fun v => stK 5 b o v h fun h => k (.tup []) h nx := ev_store1 ty29 (by kernel_rfl) a x
theorem st38 (a x : Operand) : evOp (.store 38 a x) tab call t h nx k = evO a tab t fun a => ptrOf a fun b o => evO x tab t fun v => stK 3 b o v h fun h => k (.tup []) h nx := ev_store1 ty38 (by kernel_rfl) a x
theorem st47 (a x : Operand) : evOp (.store 47 a x) tab call t h nx k = evO a tab t fun a => ptrOf a fun b o => evO x tab t fun v => stK 8 b o v h fun h => k (.tup []) h nx := ev_store1 ty47 (by kernel_rfl) a x
theorem rc29 (t : T CV) (h : T Blk) (a : Tmp) (l : List ResultVar) (k : List CV → Res β) : resultsK tab t h (.cell a 29 :: l) k = optK 161 (t.get a) fun a => resP a fun b o => ldKn 5 (.ptr b o) h fun v => resultsK tab t h l fun vs => k (v :: vs) := resC ty29 (by kernel_rfl) (by kernel_rfl) t h a l k
theorem rc38 (t : T CV) (h : T Blk) (a : Tmp) (l : List ResultVar) (k : List CV → Res β) : resultsK tab t h (.cell a 38 :: l) k = optK 161 (t.get a) fun a => resP a fun b o => ldKn 3 (.ptr b o) h fun v => resultsK tab t h l fun vs => k (v :: vs) := resC ty38 (by kernel_rfl) (by kernel_rfl) t h a l k
theorem rc47 (t : T CV) (h : T Blk) (a : Tmp) (l : List ResultVar) (k : List CV → Res β) : resultsK tab t h (.cell a 47 :: l) k = optK 161 (t.get a) fun a => resP a fun b o => ldKn 8 (.ptr b o) h fun v => resultsK tab t h l fun vs => k (v :: vs) := resC ty47 (by kernel_rfl) (by kernel_rfl) t h a l k
theorem al23 : evOp (.alloc 23) tab call t h nx k = k (.ptr nx 0) (h.set nx (newB [.int .u64 0])) (nx + 1) := ev_alloc1 ty23 (by kernel_rfl) rfl
theorem al29 : evOp (.alloc 29) tab call t h nx k = k (.ptr nx 0) (h.set nx (newB [.int .i8 0, .int .u64 0, .int .i64 0, .bool false, .int .i64 0])) (nx + 1) := ev_alloc1 ty29 (by kernel_rfl) rfl
theorem al38 : evOp (.alloc 38) tab call t h nx k = k (.ptr nx 0) (h.set nx (newB [.int .u64 0, .int .i64 0, .bool false])) (nx + 1) := ev_alloc1 ty38 (by kernel_rfl) rfl
theorem al47 : evOp (.alloc 47) tab call t h nx k = k (.ptr nx 0) (h.set nx (newB [.nilfn, .nilfn, .nilfn, .nilfn, .nilfn, .nilfn, .nilfn, .nilfn])) (nx + 1) := ev_alloc1 ty47 (by kernel_rfl) rfl
theorem fa38_0 (x : Operand) : evOp (.fieldAddr 38 x 0) tab call t h nx k = evO x tab t fun a => ptrK a 0 fun v => k v h nx := ev_field (by kernel_rfl) x
theorem fa38_1 (x : Operand) : evOp (.fieldAddr 38 x 1) tab call t h nx k = evO x tab t fun a => ptrK a 1 fun v => k v h nx := ev_field (by kernel_rfl) x
theorem fa38_2 (x : Operand) : evOp (.fieldAddr 38 x 2) tab call t h nx k = evO x tab t fun a => ptrK a 2 fun v => k v h nx := ev_field (by kernel_rfl) x
theorem fa29_0 (x : Operand) : evOp (.fieldAddr 29 x 0) tab call t h nx k = evO x tab t fun a => ptrK a 0 fun v => k v h nx := ev_field (by kernel_rfl) x
theorem fa29_1 (x : Operand) : evOp (.fieldAddr 29 x 1) tab call t h nx k = evO x tab t fun a => ptrK a 1 fun v => k v h nx := ev_field (by kernel_rfl) x
theorem fa29_2 (x : Operand) : evOp (.fieldAddr 29 x 2) tab call t h nx k = evO x tab t fun a => ptrK a 2 fun v => k v h nx := ev_field (by kernel_rfl) x
theorem fa29_3 (x : Operand) : evOp (.fieldAddr 29 x 3) tab call t h nx k = evO x tab t fun a => ptrK a 3 fun v => k v h nx := ev_field (by kernel_rfl) x
theorem fa29_4 (x : Operand) : evOp (.fieldAddr 29 x 4) tab call t h nx k = evO x tab t fun a => ptrK a 4 fun v => k v h nx := ev_field (by kernel_rfl) x
theorem fa26_0 (x : Operand) : evOp (.fieldAddr 26 x 0) tab call t h nx k = evO x tab t fun a => ptrK a 0 fun v => k v h nx := ev_field (by kernel_rfl) x
theorem fa26_1 (x : Operand) : evOp (.fieldAddr 26 x 1) tab call t h nx k = evO x tab t fun a => ptrK a 1 fun v => k v h nx := ev_field (by kernel_rfl) x
theorem ix22 (x y : Operand) : evOp (.indexAddr 22 x y) tab call t h nx k = evO x tab t fun a => evO y tab t fun i => natOf i fun i => ixK (none, 3) a i fun v => k v h nx := ev_index (by kernel_rfl) x y
theorem ix24 (x y : Operand) : evOp (.indexAddr 24 x y) tab call t h nx k = evO x tab t fun a => evO y tab t fun i => natOf i fun i => ixK (some 3, 1) a i fun v => k v h nx := ev_index (by kernel_rfl) x y
theorem ix47 (x y : Operand) : evOp (.indexAddr 47 x y) tab call t h nx k = evO x tab t fun a => evO y tab t fun i => natOf i fun i => ixK (some 8, 1) a i fun v => k v h nx := ev_index (by kernel_rfl) x y
theorem ix116 (x y : Operand) : evOp (.indexAddr 116 x y) tab call t h nx k = evO x tab t fun a => evO y tab t fun i => natOf i fun i => ixK (none, 1) a i fun v => k v h nx := ev_index (by kernel_rfl) x y
theorem ln22 (tys : List TypeId) (b o n : Nat) (cap : Cap) : opBuiltin .len (22 :: tys) [.slice b o n cap] tab h nx k = k (.int .i64 (n : Int)) h nx := len_slice ty22 (e := 38) (by kernel_rfl) tys b o n cap
theorem lz22 (tys : List TypeId) : opBuiltin .len (22 :: tys) [.nilslice] tab h nx k = k (.int .i64 0) h nx := len_nilslice ty22 (e := 38) (by kernel_rfl) tys
theorem ln116 (tys : List TypeId) (b o n : Nat) (cap : Cap) : opBuiltin .len (116 :: tys) [.slice b o n cap] tab h nx k = k (.int .i64 (n : Int)) h nx := len_slice ty116 (e := 34) (by kernel_rfl) tys b o n cap
theorem lz116 (tys : List TypeId) : opBuiltin .len (116 :: tys) [.nilslice] tab h nx k = k (.int .i64 0) h nx := len_nilslice ty116 (e := 34) (by kernel_rfl) tys
theorem cn3_23 (x : Operand) : evOp (.convert 3 23 x) tab call t h nx k = evO x tab t fun v => convK .u64 v h nx k := ev_conv ty3 ty23 (k1 := .i64) (by kernel_rfl) (by kernel_rfl) x
theorem cn23_3 (x : Operand) : evOp (.convert 23 3 x) tab call t h nx k = evO x tab t fun v => convK .i64 v h nx k := ev_conv ty23 ty3 (k1 := .u64) (by kernel_rfl) (by kernel_rfl) x
theorem cn3_150 (x : Operand) : evOp (.convert 3 150 x) tab call t h nx k = evO x tab t fun v => convK .u64 v h nx k := ev_conv ty3 ty150 (k1 := .i64) (by kernel_rfl) (by kernel_rfl) x
theorem cn150_3 (x : Operand) : evOp (.convert 150 3 x) tab call t h nx k = evO x tab t fun v => convK .i64 v h nx k := ev_conv ty150 ty3 (k1 := .u64) (by kernel_rfl) (by kernel_rfl) x
theorem pl38_0 : partPl tab 38 0 = some (0, 1) := by kernel_rfl
theorem pl38_1 : partPl tab 38 1 = some (1, 1) := by kernel_rfl
theorem pl38_2 : partPl tab 38 2 = some (2, 1) := by kernel_rfl
theorem pl29_0 : partPl tab 29 0 = some (0, 1) := by kernel_rfl
theorem pl29_1 : partPl tab 29 1 = some (1, 1) := by kernel_rfl
theorem pl29_2 : partPl tab 29 2 = some (2, 1) := by kernel_rfl
theorem pl29_3 : partPl tab 29 3 = some (3, 1) := by kernel_rfl
theorem pl29_4 : partPl tab 29 4 = some (4, 1) := by kernel_rfl
theorem pl24_0 : partPl tab 24 0 = some (0, 1) := by kernel_rfl
theorem pl24_1 : partPl tab 24 1 = some (1, 1) := by kernel_rfl
theorem pl24_2 : partPl tab 24 2 = some (2, 1) := by kernel_rfl
theorem pl47_0 : partPl tab 47 0 = some (0, 1) := by kernel_rfl
theorem pl47_1 : partPl tab 47 1 = some (1, 1) := by kernel_rfl
theorem pl47_2 : partPl tab 47 2 = some (2, 1) := by kernel_rfl
theorem pl47_3 : partPl tab 47 3 = some (3, 1) := by kernel_rfl
theorem pl47_4 : partPl tab 47 4 = some (4, 1) := by kernel_rfl
theorem pl47_5 : partPl tab 47 5 = some (5, 1) := by kernel_rfl
theorem pl47_6 : partPl tab 47 6 = some (6, 1) := by kernel_rfl
theorem pl47_7 : partPl tab 47 7 = some (7, 1) := by kernel_rfl
theorem pl22_0 : partPl tab 22 0 = some (0, 3) := by kernel_rfl
theorem pl22_1 : partPl tab 22 1 = some (3, 3) := by kernel_rfl
theorem pl22_2 : partPl tab 22 2 = some (6, 3) := by kernel_rfl
theorem pl116_0 : partPl tab 116 0 = some (0, 1) := by kernel_rfl
theorem pl116_1 : partPl tab 116 1 = some (1, 1) := by kernel_rfl
theorem bd38 (ps : Array (Nat × Operand)) (hps : ps.toList.all (fun p => (partPl tab 38 p.1).isSome) = true) : evOp (.build 38 ps) tab call t h nx k = fillS (partPl tab 38) tab t ps.toList [.int .u64 0, .int .i64 0, .bool false] fun cs => k (.agg cs) h nx := ev_build_st ty38 rfl (by kernel_rfl) (by kernel_rfl) hps
theorem bd29 (ps : Array (Nat × Operand)) (hps : ps.toList.all (fun p => (partPl tab 29 p.1).isSome) = true) : evOp (.build 29 ps) tab call t h nx k = fillS (partPl tab 29) tab t ps.toList [.int .i8 0, .int .u64 0, .int .i64 0, .bool false, .int .i64 0] fun cs => k (.agg cs) h nx := ev_build_st ty29 rfl (by kernel_rfl) (by kernel_rfl) hps
theorem bd38_0 : evOp (.build 38 #[]) tab call t h nx k = k (.agg [.int .u64 0, .int .i64 0, .bool false]) h nx := (bd38 #[] rfl).trans (by rw [fillS_nil])
theorem bd29_0 : evOp (.build 29 #[]) tab call t h nx k = k (.agg [.int .i8 0, .int .u64 0, .int .i64 0, .bool false, .int .i64 0]) h nx := (bd29 #[] rfl).trans (by rw [fillS_nil])
theorem bd29a (x0 x1 x2 x3 : Operand) : evOp (.build 29 #[(0, x0), (1, x1), (2, x2), (3, x3)]) tab call t h nx k = fillS (partPl tab 29) tab t [(0, x0), (1, x1), (2, x2), (3, x3)] [.int .i8 0, .int .u64 0, .int .i64 0, .bool false, .int .i64 0] fun cs => k (.agg cs) h nx := bd29 _ (by simp [pl29_0, pl29_1, pl29_2, pl29_3])
theorem bd29b (x0 : Operand) : evOp (.build 29 #[(0, x0)]) tab call t h nx k = fillS (partPl tab 29) tab t [(0, x0)] [.int .i8 0, .int .u64 0, .int .i64 0, .bool false, .int .i64 0] fun cs => k (.agg cs) h nx := bd29 _ (by simp [pl29_0])
theorem bd29c (x0 x4 : Operand) : evOp (.build 29 #[(0, x0), (4, x4)]) tab call t h nx k = fillS (partPl tab 29) tab t [(0, x0), (4, x4)] [.int .i8 0, .int .u64 0, .int .i64 0, .bool false, .int .i64 0] fun cs => k (.agg cs) h nx := bd29 _ (by simp [pl29_0, pl29_4])
theorem bd38a (x0 x1 x2 : Operand) : evOp (.build 38 #[(0, x0), (1, x1), (2, x2)]) tab call t h nx k = fillS (partPl tab 38) tab t [(0, x0), (1, x1), (2, x2)] [.int .u64 0, .int .i64 0, .bool false] fun cs => k (.agg cs) h nx := bd38 _ (by simp [pl38_0, pl38_1, pl38_2])
theorem bd24 (ps : Array (Nat × Operand)) : evOp (.build 24 ps) tab call t h nx k = fillS (partPl tab 24) tab t ps.toList [.int .u64 0, .int .u64 0, .int .u64 0] fun cs => k (.agg cs) h nx := ev_build_ar ty24 (n := 3) (e := 23) (by kernel_rfl) ty23 (by kernel_rfl)
theorem bd47 (ps : Array (Nat × Operand)) : evOp (.build 47 ps) tab call t h nx k = fillS (partPl tab 47) tab t ps.toList [.nilfn, .nilfn, .nilfn, .nilfn, .nilfn, .nilfn, .nilfn, .nilfn] fun cs => k (.agg cs) h nx := ev_build_ar ty47 (n := 8) (e := 46) (by kernel_rfl) ty46 (by kernel_rfl)
theorem bs22_0 (ps : Array (Nat × Operand)) : evOp (.buildSlice 22 0 ps) tab call t h nx k = fillS (partPl tab 22) tab t ps.toList [] fun cs => newCells cs h nx fun b h nx => k (.slice b 0 0 (.known 0)) h nx := ev_buildSlice ty22 (e := 38) (by kernel_rfl) ty38 (by kernel_rfl) (by kernel_rfl)
theorem bs22_1 (ps : Array (Nat × Operand)) : evOp (.buildSlice 22 1 ps) tab call t h nx k = fillS (partPl tab 22) tab t ps.toList [.int .u64 0, .int .i64 0, .bool false] fun cs => newCells cs h nx fun b h nx => k (.slice b 0 1 (.known 1)) h nx := ev_buildSlice ty22 (e := 38) (by kernel_rfl) ty38 (by kernel_rfl) (by kernel_rfl)
theorem bs22_2 (ps : Array (Nat × Operand)) : evOp (.buildSlice 22 2 ps) tab call t h nx k = fillS (partPl tab 22) tab t ps.toList [.int .u64 0, .int .i64 0, .bool false, .int .u64 0, .int .i64 0, .bool false] fun cs => newCells cs h nx fun b h nx => k (.slice b 0 2 (.known 2)) h nx := ev_buildSlice ty22 (e := 38) (by kernel_rfl) ty38 (by kernel_rfl) (by kernel_rfl)
theorem bs22_3 (ps : Array (Nat × Operand)) : evOp (.buildSlice 22 3 ps) tab call t h nx k = fillS (partPl tab 22) tab t ps.toList [.int .u64 0, .int .i64 0, .bool false, .int .u64 0, .int .i64 0, .bool false, .int .u64 0, .int .i64 0, .bool false] fun cs => newCells cs h nx fun b h nx => k (.slice b 0 3 (.known 3)) h nx := ev_buildSlice ty22 (e := 38) (by kernel_rfl) ty38 (by kernel_rfl) (by kernel_rfl)
theorem bs116_1 (ps : Array (Nat × Operand)) : evOp (.buildSlice 116 1 ps) tab call t h nx k = fillS (partPl tab 116) tab t ps.toList [.nilfn] fun cs => newCells cs h nx fun b h nx => k (.slice b 0 1 (.known 1)) h nx := ev_buildSlice ty116 (e := 34) (by kernel_rfl) ty34 (by kernel_rfl) (by kernel_rfl)
theorem bs116_2 (ps : Array (Nat × Operand)) : evOp (.buildSlice 116 2 ps) tab call t h nx k = fillS (partPl tab 116) tab t ps.toList [.nilfn, .nilfn] fun cs => newCells cs h nx fun b h nx => k (.slice b 0 2 (.known 2)) h nx := ev_buildSlice ty116 (e := 34) (by kernel_rfl) ty34 (by kernel_rfl) (by kernel_rfl)
end Go.Proofs.YthdoelcgdgcncaaGreatDoor.I
