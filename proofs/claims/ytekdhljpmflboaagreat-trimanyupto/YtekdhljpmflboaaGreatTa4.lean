/- PART 4 of 6 of a proof: see the last part. -/
import Derived.Test.YtekdhljpmflboaaGreatTa3
set_option maxRecDepth 8000
set_option maxHeartbeats 2000000
set_option linter.unusedSimpArgs false
set_option linter.unusedVariables false
set_option linter.unusedSectionVars false
namespace Go.Proofs.YtekdhljpmflboaaGreat
open Go
abbrev uT35 := @Tryz.underlying35
abbrev uT40 := @Tryz.underlying40
abbrev uT43 := @Tryz.underlying43
abbrev uT23 := @Tryz.underlying23
abbrev uT42 := @Tryz.underlying42
abbrev uT25 := @Tryz.underlying25
abbrev uT3 := @Tryz.underlying3
abbrev uT22 := @Tryz.underlying22
abbrev uT9 := @Tryz.underlying9
theorem z1b : Tryz.prog.follows .mixedOrders = true := by kernel_rfl
theorem tS3 : (Tryz.prog.info? 3).map (·.size) = some 1 := by kernel_rfl
theorem tS4 : (Tryz.prog.info? 4).map (·.size) = some 1 := by kernel_rfl
theorem tS9 : (Tryz.prog.info? 9).map (·.size) = some 1 := by kernel_rfl
theorem tS25 : (Tryz.prog.info? 25).map (·.size) = some 2 := by kernel_rfl
theorem tS35 : (Tryz.prog.info? 35).map (·.size) = some 1 := by kernel_rfl
theorem tS42 : (Tryz.prog.info? 42).map (·.size) = some 8 := by kernel_rfl
theorem tS43 : (Tryz.prog.info? 43).map (·.size) = some 1 := by kernel_rfl
theorem tS46 : (Tryz.prog.info? 46).map (·.size) = some 5 := by kernel_rfl
theorem tS49 : (Tryz.prog.info? 49).map (·.size) = some 2 := by kernel_rfl
theorem tS51 : (Tryz.prog.info? 51).map (·.size) = some 5 := by kernel_rfl
theorem tS82 : (Tryz.prog.info? 82).map (·.size) = some 2 := by kernel_rfl
theorem tS90 : (Tryz.prog.info? 90).map (·.size) = some 5 := by kernel_rfl
theorem zs1 : (Tryz.prog.info? 103).map (·.size) = some 5 := by kernel_rfl
theorem zs2 : (Tryz.prog.info? 142).map (·.size) = some 2 := by kernel_rfl
theorem tB3 : (Tryz.prog.info? 3).map (fun i => (i.size, i.bytes, (i.zero.map fun z => z.cells.size))) = some (1, 8, some 1) := by kernel_rfl
theorem tC3 : (Tryz.prog.info? 3).map (fun i => (i.size, i.bytes)) = some (1, 8) := by kernel_rfl
theorem tZ3 : ((Tryz.prog.info? 3).bind (·.zero)) = some (.int .i64 (0)) := by kernel_rfl
theorem tC4 : (Tryz.prog.info? 4).map (fun i => (i.size, i.bytes)) = some (1, 1) := by kernel_rfl
theorem tZ4 : ((Tryz.prog.info? 4).bind (·.zero)) = some (.bool false) := by kernel_rfl
theorem tF25_0 : z0m Tryz.prog 25 0 0 := ⟨_, _, 0, uT25, rfl, rfl, by kernel_rfl⟩
theorem tF25_1 : z0m Tryz.prog 25 1 1 := ⟨_, _, 0, uT25, rfl, rfl, by kernel_rfl⟩
theorem tZ42 : ((Tryz.prog.info? 42).bind (·.zero)) = some (.agg #[.int .i64 (0), .int .i64 (0), .int .i64 (0), .string ⟨#[]⟩, .slice none 0 0, .slice none 0 0, .slice none 0 0, .slice none 0 0]) := by kernel_rfl
theorem tF42_0 : z0m Tryz.prog 42 0 0 := ⟨_, _, 0, uT42, rfl, rfl, by kernel_rfl⟩
theorem tF42_1 : z0m Tryz.prog 42 1 1 := ⟨_, _, 0, uT42, rfl, rfl, by kernel_rfl⟩
theorem tF42_2 : z0m Tryz.prog 42 2 2 := ⟨_, _, 0, uT42, rfl, rfl, by kernel_rfl⟩
theorem tF42_3 : z0m Tryz.prog 42 3 3 := ⟨_, _, 0, uT42, rfl, rfl, by kernel_rfl⟩
theorem tF42_4 : z0m Tryz.prog 42 4 4 := ⟨_, _, 0, uT42, rfl, rfl, by kernel_rfl⟩
theorem tF42_5 : z0m Tryz.prog 42 5 5 := ⟨_, _, 0, uT42, rfl, rfl, by kernel_rfl⟩
theorem tF42_6 : z0m Tryz.prog 42 6 6 := ⟨_, _, 0, uT42, rfl, rfl, by kernel_rfl⟩
theorem tF42_7 : z0m Tryz.prog 42 7 7 := ⟨_, _, 0, uT42, rfl, rfl, by kernel_rfl⟩
theorem tZ46 : ((Tryz.prog.info? 46).bind (·.zero)) = some (.agg #[.int .i64 (0), .int .i64 (0), .slice none 0 0, .int .i64 (0), .int .i64 (0)]) := by kernel_rfl
theorem tF46_0 : z0m Tryz.prog 46 0 0 := ⟨_, _, 0, Tryz.underlying46, rfl, rfl, by kernel_rfl⟩
theorem tF46_1 : z0m Tryz.prog 46 1 1 := ⟨_, _, 0, Tryz.underlying46, rfl, rfl, by kernel_rfl⟩
theorem tF46_2 : z0m Tryz.prog 46 2 2 := ⟨_, _, 0, Tryz.underlying46, rfl, rfl, by kernel_rfl⟩
theorem tF46_3 : z0m Tryz.prog 46 3 3 := ⟨_, _, 0, Tryz.underlying46, rfl, rfl, by kernel_rfl⟩
theorem tF46_4 : z0m Tryz.prog 46 4 4 := ⟨_, _, 0, Tryz.underlying46, rfl, rfl, by kernel_rfl⟩
theorem tP46 : ∃ fs, Tryz.prog.underlying 46 = some (.struct fs) /\ z3n Tryz.prog fs #[(0, 1), (1, 1), (2, 1), (3, 1), (4, 1)] := ⟨_, Tryz.underlying46, fun _ => by kernel_rfl⟩
theorem tZ49 : ((Tryz.prog.info? 49).bind (·.zero)) = some (.agg #[.string ⟨#[]⟩, .int .i64 (0)]) := by kernel_rfl
theorem tF49_0 : z0m Tryz.prog 49 0 0 := ⟨_, _, 0, Tryz.underlying49, rfl, rfl, by kernel_rfl⟩
theorem tF49_1 : z0m Tryz.prog 49 1 1 := ⟨_, _, 0, Tryz.underlying49, rfl, rfl, by kernel_rfl⟩
theorem tZ51 : ((Tryz.prog.info? 51).bind (·.zero)) = some (.agg #[.string ⟨#[]⟩, .int .i64 (0), .int .i64 (0), .slice none 0 0, .slice none 0 0]) := by kernel_rfl
theorem tF51_0 : z0m Tryz.prog 51 0 0 := ⟨_, _, 0, Tryz.underlying51, rfl, rfl, by kernel_rfl⟩
theorem tF51_1 : z0m Tryz.prog 51 1 1 := ⟨_, _, 0, Tryz.underlying51, rfl, rfl, by kernel_rfl⟩
theorem tF51_2 : z0m Tryz.prog 51 2 2 := ⟨_, _, 0, Tryz.underlying51, rfl, rfl, by kernel_rfl⟩
theorem tF51_3 : z0m Tryz.prog 51 3 3 := ⟨_, _, 0, Tryz.underlying51, rfl, rfl, by kernel_rfl⟩
theorem tF51_4 : z0m Tryz.prog 51 4 4 := ⟨_, _, 0, Tryz.underlying51, rfl, rfl, by kernel_rfl⟩
theorem tZ70 : ((Tryz.prog.info? 70).bind (·.zero)) = some (.agg #[.slice none 0 0, .slice none 0 0, .slice none 0 0, .slice none 0 0, .int .i64 (0), .int .i64 (0), .slice none 0 0, .int .i64 (0), .int .i64 (0), .bool false]) := by kernel_rfl
theorem tF70_0 : z0m Tryz.prog 70 0 0 := ⟨_, _, 1, Tryz.underlying70, rfl, rfl, by kernel_rfl⟩
theorem tF70_1 : z0m Tryz.prog 70 1 2 := ⟨_, _, 0, Tryz.underlying70, rfl, rfl, by kernel_rfl⟩
theorem tF70_3 : z0m Tryz.prog 70 3 4 := ⟨_, _, 4, Tryz.underlying70, rfl, rfl, by kernel_rfl⟩
theorem tF70_4 : z0m Tryz.prog 70 4 9 := ⟨_, _, 0, Tryz.underlying70, rfl, rfl, by kernel_rfl⟩
theorem tP70 : ∃ fs, Tryz.prog.underlying 70 = some (.struct fs) /\ z3n Tryz.prog fs #[(0, 2), (2, 1), (3, 1), (4, 5), (9, 1)] := ⟨_, Tryz.underlying70, fun _ => by kernel_rfl⟩
theorem tZ82 : ((Tryz.prog.info? 82).bind (·.zero)) = some (.agg #[.int .i64 (0), .slice none 0 0]) := by kernel_rfl
theorem tF82_0 : z0m Tryz.prog 82 0 0 := ⟨_, _, 0, Tryz.underlying82, rfl, rfl, by kernel_rfl⟩
theorem tF82_1 : z0m Tryz.prog 82 1 1 := ⟨_, _, 0, Tryz.underlying82, rfl, rfl, by kernel_rfl⟩
theorem tP82 : ∃ fs, Tryz.prog.underlying 82 = some (.struct fs) /\ z3n Tryz.prog fs #[(0, 1), (1, 1)] := ⟨_, Tryz.underlying82, fun _ => by kernel_rfl⟩
theorem tZ88 : ((Tryz.prog.info? 88).bind (·.zero)) = some (.agg #[.slice none 0 0, .slice none 0 0, .string ⟨#[]⟩, .int .i64 (0), .int .i64 (0), .slice none 0 0, .slice none 0 0, .slice none 0 0]) := by kernel_rfl
theorem tF88_0 : z0m Tryz.prog 88 0 0 := ⟨_, _, 1, Tryz.underlying88, rfl, rfl, by kernel_rfl⟩
theorem tF88_1 : z0m Tryz.prog 88 1 2 := ⟨_, _, 4, Tryz.underlying88, rfl, rfl, by kernel_rfl⟩
theorem tF88_2 : z0m Tryz.prog 88 2 7 := ⟨_, _, 0, Tryz.underlying88, rfl, rfl, by kernel_rfl⟩
theorem tP88 : ∃ fs, Tryz.prog.underlying 88 = some (.struct fs) /\ z3n Tryz.prog fs #[(0, 2), (2, 5), (7, 1)] := ⟨_, Tryz.underlying88, fun _ => by kernel_rfl⟩
theorem tZ90 : ((Tryz.prog.info? 90).bind (·.zero)) = some (.agg #[.bool false, .bool false, .slice none 0 0, .slice none 0 0, .slice none 0 0]) := by kernel_rfl
theorem tF90_0 : z0m Tryz.prog 90 0 0 := ⟨_, _, 0, Tryz.underlying90, rfl, rfl, by kernel_rfl⟩
theorem tF90_1 : z0m Tryz.prog 90 1 1 := ⟨_, _, 0, Tryz.underlying90, rfl, rfl, by kernel_rfl⟩
theorem tF90_2 : z0m Tryz.prog 90 2 2 := ⟨_, _, 0, Tryz.underlying90, rfl, rfl, by kernel_rfl⟩
theorem tF90_3 : z0m Tryz.prog 90 3 3 := ⟨_, _, 0, Tryz.underlying90, rfl, rfl, by kernel_rfl⟩
theorem tF90_4 : z0m Tryz.prog 90 4 4 := ⟨_, _, 0, Tryz.underlying90, rfl, rfl, by kernel_rfl⟩
theorem tP90 : ∃ fs, Tryz.prog.underlying 90 = some (.struct fs) /\ z3n Tryz.prog fs #[(0, 1), (1, 1), (2, 1), (3, 1), (4, 1)] := ⟨_, Tryz.underlying90, fun _ => by kernel_rfl⟩
theorem tZ100 : ((Tryz.prog.info? 100).bind (·.zero)) = some (.agg #[.slice none 0 0, .slice none 0 0, .string ⟨#[]⟩, .int .i64 (0), .int .i64 (0), .slice none 0 0, .slice none 0 0, .slice none 0 0]) := by kernel_rfl
theorem tF100_0 : z0m Tryz.prog 100 0 0 := ⟨_, _, 1, Tryz.underlying100, rfl, rfl, by kernel_rfl⟩
theorem tF100_1 : z0m Tryz.prog 100 1 2 := ⟨_, _, 4, Tryz.underlying100, rfl, rfl, by kernel_rfl⟩
theorem tF100_2 : z0m Tryz.prog 100 2 7 := ⟨_, _, 0, Tryz.underlying100, rfl, rfl, by kernel_rfl⟩
theorem tP100 : ∃ fs, Tryz.prog.underlying 100 = some (.struct fs) /\ z3n Tryz.prog fs #[(0, 2), (2, 5), (7, 1)] := ⟨_, Tryz.underlying100, fun _ => by kernel_rfl⟩
theorem y1h : ((Tryz.prog.info? 103).bind (·.zero)) = some (.agg #[.bool false, .bool false, .slice none 0 0, .slice none 0 0, .slice none 0 0]) := by kernel_rfl
theorem tF103_0 : z0m Tryz.prog 103 0 0 := ⟨_, _, 0, Tryz.underlying103, rfl, rfl, by kernel_rfl⟩
theorem tF103_1 : z0m Tryz.prog 103 1 1 := ⟨_, _, 0, Tryz.underlying103, rfl, rfl, by kernel_rfl⟩
theorem tF103_2 : z0m Tryz.prog 103 2 2 := ⟨_, _, 0, Tryz.underlying103, rfl, rfl, by kernel_rfl⟩
theorem tF103_3 : z0m Tryz.prog 103 3 3 := ⟨_, _, 0, Tryz.underlying103, rfl, rfl, by kernel_rfl⟩
theorem tF103_4 : z0m Tryz.prog 103 4 4 := ⟨_, _, 0, Tryz.underlying103, rfl, rfl, by kernel_rfl⟩
theorem tP103 : ∃ fs, Tryz.prog.underlying 103 = some (.struct fs) /\ z3n Tryz.prog fs #[(0, 1), (1, 1), (2, 1), (3, 1), (4, 1)] := ⟨_, Tryz.underlying103, fun _ => by kernel_rfl⟩
theorem z3j : ((Tryz.prog.info? 142).bind (·.zero)) = some (.agg #[.string ⟨#[]⟩, .int .i64 (0)]) := by kernel_rfl
theorem z3m : ∃ fs, Tryz.prog.underlying 142 = some (.struct fs) /\ z3n Tryz.prog fs #[(0, 1), (1, 1)] := ⟨_, Tryz.underlying142, fun _ => by kernel_rfl⟩
theorem ent18 : z06 Tryz.prog 18 := ⟨Tryz.f18, Tryz.func18, by kernel_rfl, by kernel_rfl⟩
theorem ent19 : z06 Tryz.prog 19 := ⟨Tryz.f19, Tryz.func19, by kernel_rfl, by kernel_rfl⟩
theorem ent27 : z06 Tryz.prog 27 := ⟨Tryz.f27, Tryz.func27, by kernel_rfl, by kernel_rfl⟩
theorem ent28 : z06 Tryz.prog 28 := ⟨Tryz.f28, Tryz.func28, by kernel_rfl, by kernel_rfl⟩
theorem ent29 : z06 Tryz.prog 29 := ⟨Tryz.f29, Tryz.func29, by kernel_rfl, by kernel_rfl⟩
theorem y2t : z06 Tryz.prog 30 := ⟨Tryz.f30, Tryz.func30, by kernel_rfl, by kernel_rfl⟩
theorem zu2 : z06 Tryz.prog 31 := ⟨Tryz.f31, Tryz.func31, by kernel_rfl, by kernel_rfl⟩
theorem ent32 : z06 Tryz.prog 32 := ⟨Tryz.f32, Tryz.func32, by kernel_rfl, by kernel_rfl⟩
theorem ent33 : z06 Tryz.prog 33 := ⟨Tryz.f33, Tryz.func33, by kernel_rfl, by kernel_rfl⟩
theorem ent37 : z06 Tryz.prog 37 := ⟨Tryz.f37, Tryz.func37, by kernel_rfl, by kernel_rfl⟩
theorem ent38 : z06 Tryz.prog 38 := ⟨Tryz.f38, Tryz.func38, by kernel_rfl, by kernel_rfl⟩
theorem ent42 : z06 Tryz.prog 42 := ⟨Tryz.f42, Tryz.func42, by kernel_rfl, by kernel_rfl⟩
theorem ent49 : z06 Tryz.prog 49 := ⟨Tryz.f49, Tryz.func49, by kernel_rfl, by kernel_rfl⟩
theorem ent50 : z06 Tryz.prog 50 := ⟨Tryz.f50, Tryz.func50, by kernel_rfl, by kernel_rfl⟩
theorem ent51 : z06 Tryz.prog 51 := ⟨Tryz.f51, Tryz.func51, by kernel_rfl, by kernel_rfl⟩
theorem zu3 : z06 Tryz.prog 52 := ⟨Tryz.f52, Tryz.func52, by kernel_rfl, by kernel_rfl⟩
theorem y2u : z06 Tryz.prog 57 := ⟨Tryz.f57, Tryz.func57, by kernel_rfl, by kernel_rfl⟩
theorem ent59 : z06 Tryz.prog 59 := ⟨Tryz.f59, Tryz.func59, by kernel_rfl, by kernel_rfl⟩
theorem ent60 : z06 Tryz.prog 60 := ⟨Tryz.f60, Tryz.func60, by kernel_rfl, by kernel_rfl⟩
theorem ent61 : z06 Tryz.prog 61 := ⟨Tryz.f61, Tryz.func61, by kernel_rfl, by kernel_rfl⟩
theorem ent62 : z06 Tryz.prog 62 := ⟨Tryz.f62, Tryz.func62, by kernel_rfl, by kernel_rfl⟩
theorem ent63 : z06 Tryz.prog 63 := ⟨Tryz.f63, Tryz.func63, by kernel_rfl, by kernel_rfl⟩
theorem ent64 : z06 Tryz.prog 64 := ⟨Tryz.f64, Tryz.func64, by kernel_rfl, by kernel_rfl⟩
theorem ent68 : z06 Tryz.prog 68 := ⟨Tryz.f68, Tryz.func68, by kernel_rfl, by kernel_rfl⟩
theorem ent69 : z06 Tryz.prog 69 := ⟨Tryz.f69, Tryz.func69, by kernel_rfl, by kernel_rfl⟩
theorem y52 : z06 Tryz.prog 70 := ⟨Tryz.f70, Tryz.func70, by kernel_rfl, by kernel_rfl⟩
theorem ent71 : z06 Tryz.prog 71 := ⟨Tryz.f71, Tryz.func71, by kernel_rfl, by kernel_rfl⟩
theorem ent72 : z06 Tryz.prog 72 := ⟨Tryz.f72, Tryz.func72, by kernel_rfl, by kernel_rfl⟩
theorem ent73 : z06 Tryz.prog 73 := ⟨Tryz.f73, Tryz.func73, by kernel_rfl, by kernel_rfl⟩
theorem ent74 : z06 Tryz.prog 74 := ⟨Tryz.f74, Tryz.func74, by kernel_rfl, by kernel_rfl⟩
theorem ent75 : z06 Tryz.prog 75 := ⟨Tryz.f75, Tryz.func75, by kernel_rfl, by kernel_rfl⟩
theorem ent76 : z06 Tryz.prog 76 := ⟨Tryz.f76, Tryz.func76, by kernel_rfl, by kernel_rfl⟩
theorem ent77 : z06 Tryz.prog 77 := ⟨Tryz.f77, Tryz.func77, by kernel_rfl, by kernel_rfl⟩
theorem ent78 : z06 Tryz.prog 78 := ⟨Tryz.f78, Tryz.func78, by kernel_rfl, by kernel_rfl⟩
theorem ent79 : z06 Tryz.prog 79 := ⟨Tryz.f79, Tryz.func79, by kernel_rfl, by kernel_rfl⟩
theorem ent81 : z06 Tryz.prog 81 := ⟨Tryz.f81, Tryz.func81, by kernel_rfl, by kernel_rfl⟩
theorem ent82 : z06 Tryz.prog 82 := ⟨Tryz.f82, Tryz.func82, by kernel_rfl, by kernel_rfl⟩
theorem y53 : z06 Tryz.prog 83 := ⟨Tryz.f83, Tryz.func83, by kernel_rfl, by kernel_rfl⟩
theorem ent84 : z06 Tryz.prog 84 := ⟨Tryz.f84, Tryz.func84, by kernel_rfl, by kernel_rfl⟩
theorem ent85 : z06 Tryz.prog 85 := ⟨Tryz.f85, Tryz.func85, by kernel_rfl, by kernel_rfl⟩
theorem ent86 : z06 Tryz.prog 86 := ⟨Tryz.f86, Tryz.func86, by kernel_rfl, by kernel_rfl⟩
theorem ent87 : z06 Tryz.prog 87 := ⟨Tryz.f87, Tryz.func87, by kernel_rfl, by kernel_rfl⟩
theorem ent88 : z06 Tryz.prog 88 := ⟨Tryz.f88, Tryz.func88, by kernel_rfl, by kernel_rfl⟩
theorem ent89 : z06 Tryz.prog 89 := ⟨Tryz.f89, Tryz.func89, by kernel_rfl, by kernel_rfl⟩
theorem ent90 : z06 Tryz.prog 90 := ⟨Tryz.f90, Tryz.func90, by kernel_rfl, by kernel_rfl⟩
theorem ent91 : z06 Tryz.prog 91 := ⟨Tryz.f91, Tryz.func91, by kernel_rfl, by kernel_rfl⟩
theorem ent94 : z06 Tryz.prog 94 := ⟨Tryz.f94, Tryz.func94, by kernel_rfl, by kernel_rfl⟩
theorem ent95 : z06 Tryz.prog 95 := ⟨Tryz.f95, Tryz.func95, by kernel_rfl, by kernel_rfl⟩
theorem ent96 : z06 Tryz.prog 96 := ⟨Tryz.f96, Tryz.func96, by kernel_rfl, by kernel_rfl⟩
theorem ent97 : z06 Tryz.prog 97 := ⟨Tryz.f97, Tryz.func97, by kernel_rfl, by kernel_rfl⟩
theorem ent98 : z06 Tryz.prog 98 := ⟨Tryz.f98, Tryz.func98, by kernel_rfl, by kernel_rfl⟩
theorem ent99 : z06 Tryz.prog 99 := ⟨Tryz.f99, Tryz.func99, by kernel_rfl, by kernel_rfl⟩
theorem ent100 : z06 Tryz.prog 100 := ⟨Tryz.f100, Tryz.func100, by kernel_rfl, by kernel_rfl⟩
theorem z8d : z06 Tryz.prog 101 := ⟨Tryz.f101, Tryz.func101, by kernel_rfl, by kernel_rfl⟩
theorem z43 : z06 Tryz.prog 102 := ⟨Tryz.f102, Tryz.func102, by kernel_rfl, by kernel_rfl⟩
theorem z3a : z06 Tryz.prog 103 := ⟨Tryz.f103, Tryz.func103, by kernel_rfl, by kernel_rfl⟩
theorem ent104 : z06 Tryz.prog 104 := ⟨Tryz.f104, Tryz.func104, by kernel_rfl, by kernel_rfl⟩
theorem ent105 : z06 Tryz.prog 105 := ⟨Tryz.f105, Tryz.func105, by kernel_rfl, by kernel_rfl⟩
theorem ent106 : z06 Tryz.prog 106 := ⟨Tryz.f106, Tryz.func106, by kernel_rfl, by kernel_rfl⟩
theorem ent107 : z06 Tryz.prog 107 := ⟨Tryz.f107, Tryz.func107, by kernel_rfl, by kernel_rfl⟩
theorem ent108 : z06 Tryz.prog 108 := ⟨Tryz.f108, Tryz.func108, by kernel_rfl, by kernel_rfl⟩
theorem ent109 : z06 Tryz.prog 109 := ⟨Tryz.f109, Tryz.func109, by kernel_rfl, by kernel_rfl⟩
theorem ent110 : z06 Tryz.prog 110 := ⟨Tryz.f110, Tryz.func110, by kernel_rfl, by kernel_rfl⟩
theorem ent111 : z06 Tryz.prog 111 := ⟨Tryz.f111, Tryz.func111, by kernel_rfl, by kernel_rfl⟩
theorem ent112 : z06 Tryz.prog 112 := ⟨Tryz.f112, Tryz.func112, by kernel_rfl, by kernel_rfl⟩
theorem z67 : z06 Tryz.prog 113 := ⟨Tryz.f113, Tryz.func113, by kernel_rfl, by kernel_rfl⟩
theorem ent114 : z06 Tryz.prog 114 := ⟨Tryz.f114, Tryz.func114, by kernel_rfl, by kernel_rfl⟩
theorem ent115 : z06 Tryz.prog 115 := ⟨Tryz.f115, Tryz.func115, by kernel_rfl, by kernel_rfl⟩
theorem ent116 : z06 Tryz.prog 116 := ⟨Tryz.f116, Tryz.func116, by kernel_rfl, by kernel_rfl⟩
theorem ent117 : z06 Tryz.prog 117 := ⟨Tryz.f117, Tryz.func117, by kernel_rfl, by kernel_rfl⟩
theorem zm6 : z06 Tryz.prog 118 := ⟨Tryz.f118, Tryz.func118, by kernel_rfl, by kernel_rfl⟩
theorem z3b : z06 Tryz.prog 119 := ⟨Tryz.f119, Tryz.func119, by kernel_rfl, by kernel_rfl⟩
theorem zu1 : z06 Tryz.prog 120 := ⟨Tryz.f120, Tryz.func120, by kernel_rfl, by kernel_rfl⟩
theorem z4r : z06 Tryz.prog 121 := ⟨Tryz.f121, Tryz.func121, by kernel_rfl, by kernel_rfl⟩
theorem ent122 : z06 Tryz.prog 122 := ⟨Tryz.f122, Tryz.func122, by kernel_rfl, by kernel_rfl⟩
theorem y1w : z06 Tryz.prog 123 := ⟨Tryz.f123, Tryz.func123, by kernel_rfl, by kernel_rfl⟩
theorem y51 : z06 Tryz.prog 124 := ⟨Tryz.f124, Tryz.func124, by kernel_rfl, by kernel_rfl⟩
theorem ent125 : z06 Tryz.prog 125 := ⟨Tryz.f125, Tryz.func125, by kernel_rfl, by kernel_rfl⟩
theorem ent126 : z06 Tryz.prog 126 := ⟨Tryz.f126, Tryz.func126, by kernel_rfl, by kernel_rfl⟩
theorem ent127 : z06 Tryz.prog 127 := ⟨Tryz.f127, Tryz.func127, by kernel_rfl, by kernel_rfl⟩
theorem ent128 : z06 Tryz.prog 128 := ⟨Tryz.f128, Tryz.func128, by kernel_rfl, by kernel_rfl⟩
theorem ent129 : z06 Tryz.prog 129 := ⟨Tryz.f129, Tryz.func129, by kernel_rfl, by kernel_rfl⟩
theorem ent130 : z06 Tryz.prog 130 := ⟨Tryz.f130, Tryz.func130, by kernel_rfl, by kernel_rfl⟩
theorem ent131 : z06 Tryz.prog 131 := ⟨Tryz.f131, Tryz.func131, by kernel_rfl, by kernel_rfl⟩
theorem ent132 : z06 Tryz.prog 132 := ⟨Tryz.f132, Tryz.func132, by kernel_rfl, by kernel_rfl⟩
theorem ent133 : z06 Tryz.prog 133 := ⟨Tryz.f133, Tryz.func133, by kernel_rfl, by kernel_rfl⟩
def tabL : List (Nat × List (Option Nat)) := [(7, [some 0, some 1, some 2, some 3]), (8, [some 0, some 1, some 2, some 3]), (13, [some 0, some 1]), (14, [some 0, some 1]), (18, [some 0]), (19, [some 0]), (24, [some 0, some 1]), (25, [some 0, some 1]), (41, [some 0, some 1, some 2, some 3, some 4, some 5, some 6, some 7]), (42, [some 0, some 1, some 2, some 3, some 4, some 5, some 6, some 7]), (45, [some 0, some 1, some 2, some 3, some 4]), (46, [some 0, some 1, some 2, some 3, some 4]), (48, [some 0, some 1]), (49, [some 0, some 1]), (50, [some 0, some 1, some 2, some 3, some 4]), (51, [some 0, some 1, some 2, some 3, some 4]), (56, [some 0, some 1, some 2, some 3]), (57, [some 0, some 1, some 2, some 3]), (60, [some 0]), (61, [some 0]), (69, [some 0, some 2, some 3, some 4, some 9]), (70, [some 0, some 2, some 3, some 4, some 9]), (76, [some 0, some 1, some 2, some 3, some 4]), (77, [some 0, some 1, some 2, some 3, some 4]), (81, [some 0, some 1]), (82, [some 0, some 1]), (87, [some 0, some 2, some 7]), (88, [some 0, some 2, some 7]), (90, [some 0, some 1, some 2, some 3, some 4]), (99, [some 0, some 2, some 7]), (100, [some 0, some 2, some 7]), (102, [some 0, some 1, some 2, some 3, some 4]), (103, [some 0, some 1, some 2, some 3, some 4]), (141, [some 0, some 1]), (142, [some 0, some 1]), (147, [some 0, some 1, some 2, some 3]), (148, [some 0, some 1, some 2, some 3]), (150, [none]), (151, [none]), (160, [some 0, some 1, some 2, some 3, some 4, some 5, some 6, some 7, some 8, some 9, some 10]), (161, [some 0, some 1, some 2, some 3, some 4, some 5, some 6, some 7, some 8, some 9, some 10])]
def tabQ : List Nat := [2, 3, 4, 5, 6, 9, 10, 11, 12, 15, 16, 17, 21, 22, 23, 29, 31, 35, 40, 43, 55, 59, 67, 68, 85, 86, 95, 98, 131, 153, 154, 155, 157, 158, 159]
theorem tabL_ok : y5t Tryz.prog tabL = true := by kernel_rfl
theorem tabQ_ok : okLd Tryz.prog tabQ = true := by kernel_rfl
def tab : Tab Tryz.prog := mkTab Tryz.prog tabL tabQ tabL_ok tabQ_ok
theorem sm {c : Cx} {ops : Array Oper} {hp : Hp} {l l' : List Oper} {fr fr' : Fr} {Q : Exit -> Fr -> Heap' -> Prop} (n : Nat) (h : simL tab ops hp c.n n l fr = some (l', fr')) (h2 : WL Tryz.prog c ops Q l' fr' (look hp)) : WL Tryz.prog c ops Q l fr (look hp) := sim tab n h h2
theorem smS {c : Cx} {ops : Array Oper} {hp : Hp} {l l' : List Oper} {fr fr' : Fr} {Q : Exit -> Fr -> Heap' -> Prop} (n : Nat) (h : simL tab ops hp c.n n l fr = some (l', fr')) (h2 : WS Tryz.prog c ops Q l' fr' (look hp)) : WS Tryz.prog c ops Q l fr (look hp) := simS tab n h h2
theorem smR {c : Cx} {R1 : Nat -> Prop} {ops : Array Oper} {hp : Hp} {is is' : List Nat} {li li' : Array Bool} {fr fr' : Fr} {Q : Exit -> Fr -> Heap' -> Prop} {fuel : Nat} (n : Nat) (h : simR tab ops hp c.n n is li fr = some (is', li', fr')) (h2 : WR Tryz.prog c R1 ops Q is' fuel li' fr' (look hp)) : WR Tryz.prog c R1 ops Q is fuel li fr (look hp) := simR' tab n h h2
abbrev ndv (x : Nd) : PV := .agg [vInt x.kind, vInt x.op, vInt x.n, vStr x.name, ints x.args, ints x.outs, ints x.params, kids x.kids]
theorem sc_r8in (l : List Int) (n : Int) : SC Tryz.prog 114 [.pv (ints l), iInt n] [] (fun _ => False) (iBool (l.contains n)) [] := by
  refine SC.of Tryz.func114 rfl (lb rfl) fun F ρ w => ?_
  refine Tr.lenOf (t := 0) rfl (fun hl => ?_)
  simp only [List.length_map] at hl
  refine tQ <| tG <| sm 1 rfl <| nL <| tQ <| tQ <| tG <| sm 1 rfl <| nL <| tBk <| Tr.sub (Sub.of (fr' := [(5, iInt 0), (0, .pv (ints l)), (1, iInt n)]) ⟨rfl, rfl, rfl, trivial⟩) ?_
  refine Tr.loop (fun fr σ m => ∃ (k : Nat), (k <= l.length) /\ ((l.drop k).contains n = l.contains n) /\ fr = [(5, iInt k), (0, .pv (ints l)), (1, iInt n)] /\ σ = look [] /\ m = l.length - k) (n := l.length - 0) ?_ ?_
  ·exact ⟨0, Nat.zero_le _, rfl, rfl, rfl, rfl⟩
  rintro fr σ m ⟨k, hI0, hI1, rfl, rfl, rfl⟩
  refine tQ <| tQ <| tG <| sm 2 rfl <| cV rfl (oSm uT35 rfl) <| sm 1 rfl <| nL ?_
  refine tC rfl (fun hc9 => ?_) fun hc9 => ?_
  ·have hlt : k < l.length := by simpa using hc9
   have hd := List.drop_eq_getElem_cons hlt
   have hm := List.getElem_mem hlt
   have hi := z0a (f := eInt) (List.getElem?_eq_getElem hlt)
   generalize l[k] = x at hd hm hi
   refine tSk <| tQ <| tBk <| tQ <| tG <| sm 2 rfl <| cV rfl (iSq rfl rfl rfl uT35 (by assumption) tS3 rfl (by rfl)) <| sm 3 rfl <| nL ?_
   refine tC rfl (fun hc17 => ?_) fun hc17 => ?_
   ·refine tQ <| tG <| sm 1 rfl <| nL <| tRt <| rOk rfl ?_ nPo
    rw [<- hI1, hd, List.contains_cons]
    have : x = n := by simpa using hc17
    simp [this]
   refine tSk <| tG <| sm 1 rfl <| cV rfl (oB rfl rfl (z03 rfl oM0)) <| sm 1 rfl <| nL ?_
   refine ⟨_, _, ?_, Sub.of (fr' := [(5, iInt (k + 1)), (0, .pv (ints l)), (1, iInt n)]) ⟨rfl, rfl, rfl, trivial⟩, (k + 1), ?_, ?_, rfl, rfl, rfl⟩
   ·omega
   ·omega
   rw [<- hI1, hd, List.contains_cons]; simp at hc17; simp [Ne.symm hc17]
  refine tEx <| tQ <| tG <| sm 1 rfl <| nL <| tRt <| rOk rfl ?_ nPo
  have hge : l.length <= k := by simpa using hc9
  rw [<- hI1, List.drop_eq_nil_of_le hge]
  rfl
theorem z6e (x : Nd) : SC Tryz.prog 83 [.pv (ndv x)] [] (fun _ => False) (iBool (z16 x.kind)) [] := by
  refine SC.of Tryz.func83 rfl (lb rfl) fun F ρ w => ?_
  refine tQ <| tG <| cE rfl (z1c rfl rfl) <| sm 1 rfl <| nL <| tQ <| tG <| sm 4 rfl ?_
  refine wS 6 rfl (fun hb6 => ?_) fun hb6 => ?_
  ·refine sm 5 rfl <| nL <| tRt <| rOk rfl ?_ nPo
   unfold z16
   simp_all <;> omega
  refine sm 5 rfl <| nL <| tRt <| rOk rfl ?_ nPo
  unfold z16
  simp_all <;> omega
theorem zy4 (l : List Nd) : SC Tryz.prog 81 [.pv (z09 l)] [] (fun _ => False) (iInt (z3v l)) [] := by
  refine SC.of Tryz.func81 rfl (lb rfl) fun F ρ w => ?_
  refine Tr.lenOf (t := 0) rfl (fun hl => ?_)
  simp only [List.length_map] at hl
  refine tQ <| tG <| sm 1 rfl <| nL <| tQ <| tQ <| tG <| sm 1 rfl <| cV rfl (oSm uT43 rfl) <| sm 2 rfl ?_
  refine wS 6 rfl (fun hb6 => ?_) fun hb6 => ?_
  ·refine sm 9 rfl <| nL <| Tr.condT rfl <| tQ <| tG <| sm 1 rfl <| nL <| tRt <| rOk rfl ?_ nPo
   by_cases h0 : l = []
   ·subst h0; rfl
   simp_all [z3v]
  have hne : l ≠ [] := by intro h; subst h; simp at hb6
  have hpos : 0 < l.length := List.length_pos_iff.2 hne
  have hlt : l.length - 1 < l.length := by omega
  have hi := z0p (List.getElem?_eq_getElem hlt)
  have hlast : l.getLast? = some l[l.length - 1] := by rw [List.getLast?_eq_getElem?]; exact List.getElem?_eq_getElem hlt
  generalize l[l.length - 1] = x at hi hlast
  have hsub : (l.length : Int) - 1 = ((l.length - 1 : Nat) : Int) := by omega
  refine sm 2 rfl <| yV rfl rfl (oSm uT43 rfl) <| yV rfl rfl (oB rfl rfl (z63 rfl oM0)) <| WL.sub (Sub.of (fr' := [(10, iInt ((l.length - 1 : Nat) : Int)), (7, .pv (z09 l)), (6, iBool false), (0, .pv (z09 l))]) ⟨by rw [<- hsub]; rfl, rfl, rfl, rfl, trivial⟩) <| yV rfl rfl (iSq rfl rfl rfl uT43 (by assumption) tS42 rfl (by rfl)) <| yV rfl rfl (lEA rfl rfl uT42 rfl tS42 (lb rfl)) <| WL.yes rfl rfl rfl rfl rfl rfl (z1f (z6e _) y53 rfl rfl (sRf _ _) rfl) <| sm 2 rfl <| nL ?_
  refine tC rfl (fun hc15 => ?_) fun hc15 => ?_
  ·refine tQ <| tG <| sm 1 rfl <| nL <| tRt <| rOk rfl ?_ nPo
   by_cases h0 : l = []
   ·subst h0; rfl
   simp_all [z3v]
  refine tSk <| tQ <| tG <| sm 2 rfl <| cV rfl (oSm uT43 rfl) <| cV rfl (oB rfl rfl (z63 rfl oM0)) <| WL.sub (Sub.of (fr' := [(19, iInt ((l.length - 1 : Nat) : Int)), (16, .pv (z09 l))]) ⟨by rw [<- hsub]; rfl, rfl, trivial⟩) <| cV rfl (iSq rfl rfl rfl uT43 (by assumption) tS42 rfl (by rfl)) <| sm 3 rfl <| nL <| tRt <| rOk rfl ?_ nPo
  simp_all [z3v]
theorem zj5 (N : Nat) : ∀ (l : List Nd), SizeOf.sizeOf l < N -> SC Tryz.prog 82 [.pv (z09 l)] [] (fun _ => False) (iBool (z1g l)) [] := by
  induction N with
  | zero => intro l hN; exact absurd hN (Nat.not_lt_zero _)
  | succ N ih =>
    intro l hN
    refine SC.of Tryz.func82 rfl (lb rfl) fun F ρ w => ?_
    refine Tr.lenOf (t := 0) rfl (fun hl => ?_)
    simp only [List.length_map] at hl
    refine tQ <| tG <| sm 1 rfl <| nL <| tQ <| tQ <| tG <| sm 1 rfl <| nL <| tBk <| Tr.sub (Sub.of (fr' := [(3, iInt 0), (0, .pv (z09 l))]) ⟨rfl, rfl, trivial⟩) ?_
    refine Tr.loop (fun fr σ m => ∃ (k : Nat), (k <= l.length) /\ (z1g l = z1g (l.drop k)) /\ fr = [(3, iInt k), (0, .pv (z09 l))] /\ σ = look [] /\ m = l.length - k) (n := l.length - 0) ?_ ?_
    ·exact ⟨0, Nat.zero_le _, rfl, rfl, rfl, rfl⟩
    rintro fr σ m ⟨k, hI0, hI1, rfl, rfl, rfl⟩
    refine tQ <| tQ <| tG <| sm 2 rfl <| cV rfl (oSm uT43 rfl) <| sm 1 rfl <| nL ?_
    refine tC rfl (fun hc8 => ?_) fun hc8 => ?_
    ·have hlt : k < l.length := by simpa using hc8
     have hd := List.drop_eq_getElem_cons hlt
     have hm := List.getElem_mem hlt
     have hi := z0p (List.getElem?_eq_getElem hlt)
     generalize l[k] = x at hd hm hi
     refine tSk <| tQ <| tBk <| tQ <| tQ <| tG <| sm 2 rfl <| cV rfl (iSq rfl rfl rfl uT43 (by assumption) tS42 rfl (by rfl)) <| sm 3 rfl <| nL ?_
     refine tC rfl (fun hc16 => ?_) fun hc16 => ?_
     ·refine tQ <| tG <| sm 1 rfl <| nL <| tRt <| rOk rfl ?_ nPo
      rw [hI1, hd]
      simp_all [z1g, z4i]
     refine tSk <| tQ <| tG <| sm 1 rfl <| nL <| tBk ?_
     have hstart : z1g l = ((x.kind == 10 && z2f (x.kids.drop 0)) || z1g (l.drop (k + 1))) := by
       rw [hI1, hd]
       have h14 : (x.kind == 14) = false := by simpa using hc16
       simp [z1g, z4i, h14]
     refine Tr.sub (Sub.of (fr' := [(4, iInt 0), (3, iInt k), (0, .pv (z09 l))]) ⟨rfl, rfl, rfl, trivial⟩) ?_
     refine Tr.loop (fun fr σ m => ∃ (i : Nat), (i <= x.kids.length) /\ (z1g l = ((x.kind == 10 && z2f (x.kids.drop i)) || z1g (l.drop (k + 1)))) /\ fr = [(4, iInt i), (3, iInt k), (0, .pv (z09 l))] /\ σ = look [] /\ m = x.kids.length - i) (n := x.kids.length - 0) ?_ ?_
     ·exact ⟨0, Nat.zero_le _, hstart, rfl, rfl, rfl⟩
     rintro fr σ m ⟨i, hJ0, hJ1, rfl, rfl, rfl⟩
     refine tQ <| tQ <| tG <| sm 3 rfl <| cV rfl (iSq rfl rfl rfl uT43 (by assumption) tS42 rfl (by rfl)) <| sm 2 rfl ?_
     refine WL.lenOf (t := 22) rfl (fun hl2 => ?_)
     simp only [List.length_map] at hl2
     refine cV rfl (oSm uT40 rfl) <| sm 2 rfl ?_
     refine wS 25 rfl (fun hb25 => ?_) fun hb25 => ?_
     ·refine sm 2 rfl <| yV rfl rfl (iSq rfl rfl rfl uT43 (by assumption) tS42 rfl (by rfl)) <| sm 4 rfl <| nL ?_
      refine tC rfl (fun hc32 => ?_) fun hc32 => ?_
      ·have hlt2 : i < x.kids.length := by simpa using hb25
       have hd2 := List.drop_eq_getElem_cons hlt2
       have hm2 := List.getElem_mem hlt2
       have hi2 := z0a (f := eKid) (List.getElem?_eq_getElem hlt2)
       generalize x.kids[i] = q at hd2 hm2 hi2
       have hdec : SizeOf.sizeOf q < N := Nat.lt_of_lt_of_le (z4s hm rfl hm2) (Nat.le_of_lt_succ hN)
       refine tSk <| tQ <| tBk <| tQ <| tG <| sm 2 rfl <| cV rfl (iSq rfl rfl rfl uT43 (by assumption) tS42 rfl (by rfl)) <| sm 3 rfl <| cV rfl (iSq rfl rfl rfl uT40 (by assumption) tS43 rfl (by rfl)) <| sm 1 rfl <| cE rfl (ocq (ih _ hdec) ent82 rfl rfl) <| nL ?_
       refine tC rfl (fun hc43 => ?_) fun hc43 => ?_
       ·refine tQ <| tG <| sm 1 rfl <| nL <| tRt <| rOk rfl ?_ nPo
        rw [hJ1, hd2]
        simp at hc32
        simp [z2f, hc32, hc43]
       refine tSk <| tG <| sm 1 rfl <| cV rfl (oB rfl rfl (z03 rfl oM0)) <| sm 1 rfl <| nL ?_
       refine ⟨_, _, ?_, Sub.of (fr' := [(4, iInt (i + 1)), (3, iInt k), (0, .pv (z09 l))]) ⟨rfl, rfl, rfl, trivial⟩, (i + 1), ?_, ?_, rfl, rfl, rfl⟩
       ·omega
       ·omega
       rw [hJ1, hd2]
       simp [z2f, hc43]
      refine tEx <| tG <| sm 1 rfl <| cV rfl (oB rfl rfl (z03 rfl oM0)) <| sm 1 rfl <| nL ?_
      refine ⟨_, _, ?_, Sub.of (fr' := [(3, iInt (k + 1)), (0, .pv (z09 l))]) ⟨rfl, rfl, trivial⟩, (k + 1), ?_, ?_, rfl, rfl, rfl⟩
      ·omega
      ·omega
      first
      | (have h10 : (x.kind == 10) = false := by simpa using hc32
         rw [hJ1, h10]; simp)
      | (rw [hJ1, List.drop_eq_nil_of_le (by simpa using hb25)]; simp [z2f])
     refine sm 7 rfl <| nL <| Tr.condF rfl <| tEx <| tG <| sm 1 rfl <| cV rfl (oB rfl rfl (z03 rfl oM0)) <| sm 1 rfl <| nL ?_
     refine ⟨_, _, ?_, Sub.of (fr' := [(3, iInt (k + 1)), (0, .pv (z09 l))]) ⟨rfl, rfl, trivial⟩, (k + 1), ?_, ?_, rfl, rfl, rfl⟩
     ·omega
     ·omega
     first
     | (have h10 : (x.kind == 10) = false := by simpa using hc32
        rw [hJ1, h10]; simp)
     | (rw [hJ1, List.drop_eq_nil_of_le (by simpa using hb25)]; simp [z2f])
    refine tEx <| tQ <| tG <| sm 1 rfl <| nL <| tRt <| rOk rfl ?_ nPo
    have hge : l.length <= k := by simpa using hc8
    rw [hI1, List.drop_eq_nil_of_le hge]
    rfl
theorem zj4 (l : List Nd) : SC Tryz.prog 82 [.pv (z09 l)] [] (fun _ => False) (iBool (z1g l)) [] := zj5 _ l (Nat.lt_succ_self _)
theorem y6g (x : Nd) : SC Tryz.prog 100 [.pv (ndv x)] [] (fun _ => False) (iBool (z0k x)) [] := by
  refine SC.of Tryz.func100 rfl (lb rfl) fun F ρ w => ?_
  refine tQ <| tG <| cE rfl (z1c rfl rfl) <| sm 1 rfl <| nL <| tQ ?_
  refine Tr.cut (fr' := [(3, iBool (r8op x)), (1, .pv (.ept [vInt x.kind, vInt x.op, vInt x.n, vStr x.name, ints x.args, ints x.outs, ints x.params, kids x.kids] 0))]) (σ' := look []) ?_ ?_
  ·refine tG <| sm 4 rfl ?_
   refine wS 10 rfl (fun hb10 => ?_) fun hb10 => ?_
   ·refine sm 5 rfl <| nL ?_
    refine ⟨rfl, Sub.of ⟨?_, ?_, trivial⟩, rfl⟩
    all_goals first | rfl | (refine congrArg some ?_; simp_all [r8op]; done)
   refine sm 5 rfl <| nL ?_
   refine ⟨rfl, Sub.of ⟨?_, ?_, trivial⟩, rfl⟩
   all_goals first | rfl | (refine congrArg some ?_; simp_all [r8op]; done)
  refine tQ ?_
  refine Tr.cut (fr' := [(4, iBool (z1r x)), (3, iBool (r8op x)), (1, .pv (.ept [vInt x.kind, vInt x.op, vInt x.n, vStr x.name, ints x.args, ints x.outs, ints x.params, kids x.kids] 0))]) (σ' := look []) ?_ ?_
  ·refine tG <| sm 4 rfl ?_
   refine wS 18 rfl (fun hb18 => ?_) fun hb18 => ?_
   ·refine sm 5 rfl <| nL ?_
    refine ⟨rfl, Sub.of ⟨?_, ?_, ?_, trivial⟩, rfl⟩
    all_goals first | rfl | (refine congrArg some ?_; simp_all [z1r]; done)
   refine sm 5 rfl <| nL ?_
   refine ⟨rfl, Sub.of ⟨?_, ?_, ?_, trivial⟩, rfl⟩
   all_goals first | rfl | (refine congrArg some ?_; simp_all [z1r]; done)
  refine tQ ?_
  refine Tr.cut (fr' := [(5, iBool (z0w x)), (4, iBool (z1r x)), (3, iBool (r8op x)), (1, .pv (.ept [vInt x.kind, vInt x.op, vInt x.n, vStr x.name, ints x.args, ints x.outs, ints x.params, kids x.kids] 0))]) (σ' := look []) ?_ ?_
  ·refine tG <| sm 4 rfl ?_
   refine wS 26 rfl (fun hb26 => ?_) fun hb26 => ?_
   ·refine sm 10 rfl <| nL ?_
    refine ⟨rfl, Sub.of ⟨?_, ?_, ?_, ?_, trivial⟩, rfl⟩
    all_goals first | rfl | (refine congrArg some ?_; simp_all [z0w]; done)
   refine sm 5 rfl ?_
   refine wS 31 rfl (fun hb31 => ?_) fun hb31 => ?_
   ·refine sm 5 rfl <| nL ?_
    refine ⟨rfl, Sub.of ⟨?_, ?_, ?_, ?_, trivial⟩, rfl⟩
    all_goals first | rfl | (refine congrArg some ?_; simp_all [z0w]; done)
   refine sm 5 rfl <| nL ?_
   refine ⟨rfl, Sub.of ⟨?_, ?_, ?_, ?_, trivial⟩, rfl⟩
   all_goals first | rfl | (refine congrArg some ?_; simp_all [z0w]; done)
  refine tQ <| tG <| sm 1 rfl <| nL <| tQ <| tQ <| tG <| sm 3 rfl <| nL ?_
  refine Tr.cut (fr' := [(6, iInt (if x.kind == 10 then 2 else 0)), (5, iBool (z0w x)), (4, iBool (z1r x)), (3, iBool (r8op x)), (1, .pv (.ept [vInt x.kind, vInt x.op, vInt x.n, vStr x.name, ints x.args, ints x.outs, ints x.params, kids x.kids] 0))]) (σ' := look []) ?_ ?_
  ·refine tC rfl (fun hc38 => ?_) fun hc38 => ?_
   ·refine tG <| sm 1 rfl <| nL ?_
    refine ⟨rfl, Sub.of ⟨?_, ?_, ?_, ?_, ?_, trivial⟩, rfl⟩
    all_goals first | rfl | (refine congrArg some ?_; simp_all; done)
   refine tSk ?_
   refine ⟨rfl, Sub.of ⟨?_, ?_, ?_, ?_, ?_, trivial⟩, rfl⟩
   all_goals first | rfl | (refine congrArg some ?_; simp_all; done)
  refine tQ <| tQ <| tG <| sm 3 rfl <| nL ?_
  refine Tr.cut (fr' := [(6, iInt (r8kn x)), (5, iBool (z0w x)), (4, iBool (z1r x)), (3, iBool (r8op x)), (1, .pv (.ept [vInt x.kind, vInt x.op, vInt x.n, vStr x.name, ints x.args, ints x.outs, ints x.params, kids x.kids] 0))]) (σ' := look []) ?_ ?_
  ·refine tC rfl (fun hc41 => ?_) fun hc41 => ?_
   ·refine tG <| sm 1 rfl <| nL ?_
    refine ⟨rfl, Sub.of ⟨?_, ?_, ?_, ?_, ?_, trivial⟩, rfl⟩
    all_goals first | rfl | (refine congrArg some ?_; simp_all [r8kn]; done)
   refine tSk ?_
   refine ⟨rfl, Sub.of ⟨?_, ?_, ?_, ?_, ?_, trivial⟩, rfl⟩
   all_goals first | rfl | (refine congrArg some ?_; simp_all [r8kn]; done)
  refine tQ <| tG <| sm 2 rfl ?_
  refine wS 43 rfl (fun hb43 => ?_) fun hb43 => ?_
  ·refine sm 7 rfl ?_
   refine wS 50 rfl (fun hb50 => ?_) fun hb50 => ?_
   ·refine sm 8 rfl ?_
    refine wS 58 rfl (fun hb58 => ?_) fun hb58 => ?_
    ·refine sm 8 rfl <| yV rfl rfl (oSm uT40 rfl) <| sm 4 rfl ?_
     refine wS 71 rfl (fun hb71 => ?_) fun hb71 => ?_
     ·refine sm 4 rfl ?_
      refine wS 75 rfl (fun hb75 => ?_) fun hb75 => ?_
      ·refine sm 7 rfl <| nL <| tRt <| rOk rfl ?_ nPo
       simp_all [z0k]
      refine sm 2 rfl <| yV rfl rfl (oSm uT35 rfl) <| sm 4 rfl <| nL <| tRt <| rOk rfl ?_ nPo
      simp_all [z0k]
     refine sm 4 rfl <| nUu rfl rfl rfl rfl rfl rfl <| nUu rfl rfl rfl rfl rfl rfl <| nUu rfl rfl rfl rfl rfl rfl <| nUu rfl rfl rfl rfl rfl rfl <| sm 3 rfl <| nL <| tRt <| rOk rfl ?_ nPo
     simp_all [z0k]
    refine sm 2 rfl <| yV rfl rfl (bSt rfl rfl rfl rfl) <| sm 3 rfl ?_
    refine wS 64 rfl (fun hb64 => ?_) fun hb64 => ?_
    ·refine sm 2 rfl <| yV rfl rfl (oSm uT40 rfl) <| sm 4 rfl ?_
     refine wS 71 rfl (fun hb71 => ?_) fun hb71 => ?_
     ·refine sm 4 rfl ?_
      refine wS 75 rfl (fun hb75 => ?_) fun hb75 => ?_
      ·refine sm 7 rfl <| nL <| tRt <| rOk rfl ?_ nPo
       simp_all [z0k]
      refine sm 2 rfl <| yV rfl rfl (oSm uT35 rfl) <| sm 4 rfl <| nL <| tRt <| rOk rfl ?_ nPo
      simp_all [z0k]
     refine sm 4 rfl <| nUu rfl rfl rfl rfl rfl rfl <| nUu rfl rfl rfl rfl rfl rfl <| nUu rfl rfl rfl rfl rfl rfl <| nUu rfl rfl rfl rfl rfl rfl <| sm 3 rfl <| nL <| tRt <| rOk rfl ?_ nPo
     simp_all [z0k]
    refine sm 11 rfl <| nUu rfl rfl rfl rfl rfl rfl <| nUu rfl rfl rfl rfl rfl rfl <| nUu rfl rfl rfl rfl rfl rfl <| nUu rfl rfl rfl rfl rfl rfl <| sm 3 rfl <| nL <| tRt <| rOk rfl ?_ nPo
    simp_all [z0k]
   refine sm 6 rfl ?_
   refine wS 56 rfl (fun hb56 => ?_) fun hb56 => ?_
   ·refine sm 2 rfl ?_
    refine wS 58 rfl (fun hb58 => ?_) fun hb58 => ?_
    ·refine sm 8 rfl <| yV rfl rfl (oSm uT40 rfl) <| sm 4 rfl ?_
     refine wS 71 rfl (fun hb71 => ?_) fun hb71 => ?_
     ·refine sm 4 rfl ?_
      refine wS 75 rfl (fun hb75 => ?_) fun hb75 => ?_
      ·refine sm 7 rfl <| nL <| tRt <| rOk rfl ?_ nPo
       simp_all [z0k]
      refine sm 2 rfl <| yV rfl rfl (oSm uT35 rfl) <| sm 4 rfl <| nL <| tRt <| rOk rfl ?_ nPo
      simp_all [z0k]
     refine sm 4 rfl <| nUu rfl rfl rfl rfl rfl rfl <| nUu rfl rfl rfl rfl rfl rfl <| nUu rfl rfl rfl rfl rfl rfl <| nUu rfl rfl rfl rfl rfl rfl <| sm 3 rfl <| nL <| tRt <| rOk rfl ?_ nPo
     simp_all [z0k]
    refine sm 2 rfl <| yV rfl rfl (bSt rfl rfl rfl rfl) <| sm 3 rfl ?_
    refine wS 64 rfl (fun hb64 => ?_) fun hb64 => ?_
    ·refine sm 2 rfl <| yV rfl rfl (oSm uT40 rfl) <| sm 4 rfl ?_
     refine wS 71 rfl (fun hb71 => ?_) fun hb71 => ?_
     ·refine sm 4 rfl ?_
      refine wS 75 rfl (fun hb75 => ?_) fun hb75 => ?_
      ·refine sm 7 rfl <| nL <| tRt <| rOk rfl ?_ nPo
       simp_all [z0k]
      refine sm 2 rfl <| yV rfl rfl (oSm uT35 rfl) <| sm 4 rfl <| nL <| tRt <| rOk rfl ?_ nPo
      simp_all [z0k]
     refine sm 4 rfl <| nUu rfl rfl rfl rfl rfl rfl <| nUu rfl rfl rfl rfl rfl rfl <| nUu rfl rfl rfl rfl rfl rfl <| nUu rfl rfl rfl rfl rfl rfl <| sm 3 rfl <| nL <| tRt <| rOk rfl ?_ nPo
     simp_all [z0k]
    refine sm 11 rfl <| nUu rfl rfl rfl rfl rfl rfl <| nUu rfl rfl rfl rfl rfl rfl <| nUu rfl rfl rfl rfl rfl rfl <| nUu rfl rfl rfl rfl rfl rfl <| sm 3 rfl <| nL <| tRt <| rOk rfl ?_ nPo
    simp_all [z0k]
   refine sm 2 rfl <| nUu rfl rfl rfl rfl rfl rfl <| nUu rfl rfl rfl rfl rfl rfl <| nUu rfl rfl rfl rfl rfl rfl <| sm 14 rfl <| nUu rfl rfl rfl rfl rfl rfl <| nUu rfl rfl rfl rfl rfl rfl <| nUu rfl rfl rfl rfl rfl rfl <| nUu rfl rfl rfl rfl rfl rfl <| sm 3 rfl <| nL <| tRt <| rOk rfl ?_ nPo
   simp_all [z0k]
  refine sm 5 rfl ?_
  refine wS 48 rfl (fun hb48 => ?_) fun hb48 => ?_
  ·refine sm 2 rfl ?_
   refine wS 50 rfl (fun hb50 => ?_) fun hb50 => ?_
   ·refine sm 8 rfl ?_
    refine wS 58 rfl (fun hb58 => ?_) fun hb58 => ?_
    ·refine sm 8 rfl <| yV rfl rfl (oSm uT40 rfl) <| sm 4 rfl ?_
     refine wS 71 rfl (fun hb71 => ?_) fun hb71 => ?_
     ·refine sm 4 rfl ?_
      refine wS 75 rfl (fun hb75 => ?_) fun hb75 => ?_
      ·refine sm 7 rfl <| nL <| tRt <| rOk rfl ?_ nPo
       simp_all [z0k]
      refine sm 2 rfl <| yV rfl rfl (oSm uT35 rfl) <| sm 4 rfl <| nL <| tRt <| rOk rfl ?_ nPo
      simp_all [z0k]
     refine sm 4 rfl <| nUu rfl rfl rfl rfl rfl rfl <| nUu rfl rfl rfl rfl rfl rfl <| nUu rfl rfl rfl rfl rfl rfl <| nUu rfl rfl rfl rfl rfl rfl <| sm 3 rfl <| nL <| tRt <| rOk rfl ?_ nPo
     simp_all [z0k]
    refine sm 2 rfl <| yV rfl rfl (bSt rfl rfl rfl rfl) <| sm 3 rfl ?_
    refine wS 64 rfl (fun hb64 => ?_) fun hb64 => ?_
    ·refine sm 2 rfl <| yV rfl rfl (oSm uT40 rfl) <| sm 4 rfl ?_
     refine wS 71 rfl (fun hb71 => ?_) fun hb71 => ?_
     ·refine sm 4 rfl ?_
      refine wS 75 rfl (fun hb75 => ?_) fun hb75 => ?_
      ·refine sm 7 rfl <| nL <| tRt <| rOk rfl ?_ nPo
       simp_all [z0k]
      refine sm 2 rfl <| yV rfl rfl (oSm uT35 rfl) <| sm 4 rfl <| nL <| tRt <| rOk rfl ?_ nPo
      simp_all [z0k]
     refine sm 4 rfl <| nUu rfl rfl rfl rfl rfl rfl <| nUu rfl rfl rfl rfl rfl rfl <| nUu rfl rfl rfl rfl rfl rfl <| nUu rfl rfl rfl rfl rfl rfl <| sm 3 rfl <| nL <| tRt <| rOk rfl ?_ nPo
     simp_all [z0k]
    refine sm 11 rfl <| nUu rfl rfl rfl rfl rfl rfl <| nUu rfl rfl rfl rfl rfl rfl <| nUu rfl rfl rfl rfl rfl rfl <| nUu rfl rfl rfl rfl rfl rfl <| sm 3 rfl <| nL <| tRt <| rOk rfl ?_ nPo
    simp_all [z0k]
   refine sm 6 rfl ?_
   refine wS 56 rfl (fun hb56 => ?_) fun hb56 => ?_
   ·refine sm 2 rfl ?_
    refine wS 58 rfl (fun hb58 => ?_) fun hb58 => ?_
    ·refine sm 8 rfl <| yV rfl rfl (oSm uT40 rfl) <| sm 4 rfl ?_
     refine wS 71 rfl (fun hb71 => ?_) fun hb71 => ?_
     ·refine sm 4 rfl ?_
      refine wS 75 rfl (fun hb75 => ?_) fun hb75 => ?_
      ·refine sm 7 rfl <| nL <| tRt <| rOk rfl ?_ nPo
       simp_all [z0k]
      refine sm 2 rfl <| yV rfl rfl (oSm uT35 rfl) <| sm 4 rfl <| nL <| tRt <| rOk rfl ?_ nPo
      simp_all [z0k]
     refine sm 4 rfl <| nUu rfl rfl rfl rfl rfl rfl <| nUu rfl rfl rfl rfl rfl rfl <| nUu rfl rfl rfl rfl rfl rfl <| nUu rfl rfl rfl rfl rfl rfl <| sm 3 rfl <| nL <| tRt <| rOk rfl ?_ nPo
     simp_all [z0k]
    refine sm 2 rfl <| yV rfl rfl (bSt rfl rfl rfl rfl) <| sm 3 rfl ?_
    refine wS 64 rfl (fun hb64 => ?_) fun hb64 => ?_
    ·refine sm 2 rfl <| yV rfl rfl (oSm uT40 rfl) <| sm 4 rfl ?_
     refine wS 71 rfl (fun hb71 => ?_) fun hb71 => ?_
     ·refine sm 4 rfl ?_
      refine wS 75 rfl (fun hb75 => ?_) fun hb75 => ?_
      ·refine sm 7 rfl <| nL <| tRt <| rOk rfl ?_ nPo
       simp_all [z0k]
      refine sm 2 rfl <| yV rfl rfl (oSm uT35 rfl) <| sm 4 rfl <| nL <| tRt <| rOk rfl ?_ nPo
      simp_all [z0k]
     refine sm 4 rfl <| nUu rfl rfl rfl rfl rfl rfl <| nUu rfl rfl rfl rfl rfl rfl <| nUu rfl rfl rfl rfl rfl rfl <| nUu rfl rfl rfl rfl rfl rfl <| sm 3 rfl <| nL <| tRt <| rOk rfl ?_ nPo
     simp_all [z0k]
    refine sm 11 rfl <| nUu rfl rfl rfl rfl rfl rfl <| nUu rfl rfl rfl rfl rfl rfl <| nUu rfl rfl rfl rfl rfl rfl <| nUu rfl rfl rfl rfl rfl rfl <| sm 3 rfl <| nL <| tRt <| rOk rfl ?_ nPo
    simp_all [z0k]
   refine sm 2 rfl <| nUu rfl rfl rfl rfl rfl rfl <| nUu rfl rfl rfl rfl rfl rfl <| nUu rfl rfl rfl rfl rfl rfl <| sm 14 rfl <| nUu rfl rfl rfl rfl rfl rfl <| nUu rfl rfl rfl rfl rfl rfl <| nUu rfl rfl rfl rfl rfl rfl <| nUu rfl rfl rfl rfl rfl rfl <| sm 3 rfl <| nL <| tRt <| rOk rfl ?_ nPo
   simp_all [z0k]
  refine sm 2 rfl <| nUu rfl rfl rfl rfl rfl rfl <| nUu rfl rfl rfl rfl rfl rfl <| nUu rfl rfl rfl rfl rfl rfl <| sm 5 rfl <| nUu rfl rfl rfl rfl rfl rfl <| nUu rfl rfl rfl rfl rfl rfl <| nUu rfl rfl rfl rfl rfl rfl <| sm 14 rfl <| nUu rfl rfl rfl rfl rfl rfl <| nUu rfl rfl rfl rfl rfl rfl <| nUu rfl rfl rfl rfl rfl rfl ?_
  refine nUu rfl rfl rfl rfl rfl rfl <| sm 3 rfl <| nL <| tRt <| rOk rfl ?_ nPo
  simp_all [z0k]
theorem z48 (x : Nd) : SC Tryz.prog 57 [.pv (ndv x)] [] (fun _ => False) (iBool (z04 x)) [] := by
  refine SC.of Tryz.func57 rfl (lb rfl) fun F ρ w => ?_
  refine tQ <| tG <| cE rfl (z1c rfl rfl) <| sm 1 rfl <| nL <| tQ <| tBk <| tQ <| tG <| sm 4 rfl ?_
  refine wS 7 rfl (fun hb7 => ?_) fun hb7 => ?_
  ·refine sm 2 rfl <| yV rfl rfl (oSm uT40 rfl) <| sm 3 rfl <| nL ?_
   refine tC rfl (fun hc3 => ?_) fun hc3 => ?_
   ·have hl : x.kids.length = 2 := by first | (simp_all; done) | (simp_all; omega)
    have h10 : x.kind = 10 := by simp_all
    have hi0 : (x.kids.map eKid)[0]? = some [z09 (kid0 x.kids)] := by rw [List.getElem?_map]; simp [kid0, eKid, hl]
    have hi1 : (x.kids.map eKid)[1]? = some [z09 (kid1 x.kids)] := by rw [List.getElem?_map]; simp [kid1, eKid, hl]
    refine tQ <| tG <| sm 2 rfl <| cV rfl (iSq rfl rfl rfl uT40 hi0 tS43 rfl (by rfl)) <| sm 1 rfl <| cE rfl (ocq (zy4 _) ent81 rfl rfl) <| sm 2 rfl ?_
    refine wS 19 rfl (fun hb19 => ?_) fun hb19 => ?_
    ·refine sm 2 rfl <| yV rfl rfl (iSq rfl rfl rfl uT40 hi1 tS43 rfl (by rfl)) <| sm 1 rfl <| WL.yes rfl rfl rfl rfl rfl rfl (z1f (zy4 _) ent81 rfl rfl (sRf _ _) rfl) <| sm 3 rfl <| nL <| tRt <| rOk rfl ?_ nPo
     simp_all [z04]
    refine sm 8 rfl <| nL <| tRt <| rOk rfl ?_ nPo
    simp_all [z04]
   refine tQ <| tG <| sm 4 rfl ?_
   refine wS 31 rfl (fun hb31 => ?_) fun hb31 => ?_
   ·refine sm 2 rfl <| yV rfl rfl (oSm uT40 rfl) <| sm 3 rfl <| nL ?_
    refine tC rfl (fun hc27 => ?_) fun hc27 => ?_
    ·have hl : x.kids.length = 1 := by first | (simp_all; done) | (simp_all; omega)
     have h11 : x.kind = 11 := by simp_all
     have hi0 : (x.kids.map eKid)[0]? = some [z09 (kid0 x.kids)] := by rw [List.getElem?_map]; simp [kid0, eKid, hl]
     refine tQ <| tG <| sm 2 rfl <| cV rfl (iSq rfl rfl rfl uT40 hi0 tS43 rfl (by rfl)) <| sm 1 rfl <| cE rfl (ocq (zj4 _) ent82 rfl rfl) <| sm 2 rfl <| nL <| tRt <| rOk rfl ?_ nPo
     simp_all [z04]
    refine tSk <| tQ <| tG <| cV rfl (lEA rfl rfl uT42 rfl tS42 (lb rfl)) <| cE rfl (ocq (z6e _) y53 rfl rfl) <| sm 1 rfl <| nL <| tRt <| rOk rfl ?_ nPo
    simp_all [z04]
   refine sm 6 rfl <| nL <| Tr.condF rfl <| tSk <| tQ <| tG <| cV rfl (lEA rfl rfl uT42 rfl tS42 (lb rfl)) <| cE rfl (ocq (z6e _) y53 rfl rfl) <| sm 1 rfl <| nL <| tRt <| rOk rfl ?_ nPo
   simp_all [z04]
  refine sm 6 rfl <| nL <| Tr.condF rfl <| tQ <| tG <| sm 4 rfl ?_
  refine wS 31 rfl (fun hb31 => ?_) fun hb31 => ?_
  ·refine sm 2 rfl <| yV rfl rfl (oSm uT40 rfl) <| sm 3 rfl <| nL ?_
   refine tC rfl (fun hc27 => ?_) fun hc27 => ?_
   ·have hl : x.kids.length = 1 := by first | (simp_all; done) | (simp_all; omega)
    have h11 : x.kind = 11 := by simp_all
    have hi0 : (x.kids.map eKid)[0]? = some [z09 (kid0 x.kids)] := by rw [List.getElem?_map]; simp [kid0, eKid, hl]
    refine tQ <| tG <| sm 2 rfl <| cV rfl (iSq rfl rfl rfl uT40 hi0 tS43 rfl (by rfl)) <| sm 1 rfl <| cE rfl (ocq (zj4 _) ent82 rfl rfl) <| sm 2 rfl <| nL <| tRt <| rOk rfl ?_ nPo
    simp_all [z04]
   refine tSk <| tQ <| tG <| cV rfl (lEA rfl rfl uT42 rfl tS42 (lb rfl)) <| cE rfl (ocq (z6e _) y53 rfl rfl) <| sm 1 rfl <| nL <| tRt <| rOk rfl ?_ nPo
   simp_all [z04]
  refine sm 6 rfl <| nL <| Tr.condF rfl <| tSk <| tQ <| tG <| cV rfl (lEA rfl rfl uT42 rfl tS42 (lb rfl)) <| cE rfl (ocq (z6e _) y53 rfl rfl) <| sm 1 rfl <| nL <| tRt <| rOk rfl ?_ nPo
  simp_all [z04]
theorem z53 (u : Un) (name : ByteArray) : SC Tryz.prog 30 [.pv u.enc, iStr name] [] (fun _ => False) (iInt (z07 name u.flows 0)) [] := by
  refine SC.of Tryz.func30 rfl (lb rfl) fun F ρ w => ?_
  refine tQ <| tG <| cE rfl (z1c rfl rfl) <| sm 1 rfl <| nL <| tQ <| tQ <| tG <| sm 1 rfl <| nL <| tBk <| Tr.sub (Sub.of (fr' := [(5, iInt 0), (2, .pv (.ept [arrs u.arrays, flws u.flows] 0)), (1, iStr name)]) ⟨rfl, rfl, rfl, trivial⟩) ?_
  refine Tr.loop (fun fr σ m => ∃ (k : Nat), (k <= u.flows.length) /\ (z07 name u.flows 0 = z07 name (u.flows.drop k) k) /\ fr = [(5, iInt k), (2, .pv (.ept [arrs u.arrays, flws u.flows] 0)), (1, iStr name)] /\ σ = look [] /\ m = u.flows.length - k) (n := u.flows.length - 0) ?_ ?_
  ·exact ⟨0, Nat.zero_le _, rfl, rfl, rfl, rfl⟩
  rintro fr σ m ⟨k, hI0, hI1, rfl, rfl, rfl⟩
  refine tQ <| tQ <| tG <| sm 3 rfl ?_
  refine WL.lenOf (t := 8) rfl (fun hl => ?_)
  simp only [List.length_map] at hl
  refine cV rfl (oSm uT23 rfl) <| sm 1 rfl <| nL ?_
  refine tC rfl (fun hc10 => ?_) fun hc10 => ?_
  ·have hlt : k < u.flows.length := by simpa using hc10
   have hd := List.drop_eq_getElem_cons hlt
   have hm := List.getElem_mem hlt
   have hi := z0a (f := Fl.enc) (List.getElem?_eq_getElem hlt)
   generalize u.flows[k] = x at hd hm hi
   refine tSk <| tQ <| tBk <| tQ <| tG <| sm 3 rfl <| cV rfl (iSq rfl rfl rfl uT23 (by assumption) tS51 rfl (by rfl)) <| sm 3 rfl <| cV rfl (bSt rfl rfl rfl rfl) <| nL ?_
   refine tC rfl (fun hc20 => ?_) fun hc20 => ?_
   ·refine tQ <| tG <| sm 2 rfl <| nL <| tRt <| rOk rfl ?_ nPo
    rw [hI1, hd]
    have h20 : eqS x.name name = true := by simpa [eqS] using hc20
    simp [z07, h20]
   refine tSk <| tG <| sm 1 rfl <| cV rfl (oB rfl rfl (z03 rfl oM0)) <| sm 1 rfl <| nL ?_
   refine ⟨_, _, ?_, Sub.of (fr' := [(5, iInt (k + 1)), (2, .pv (.ept [arrs u.arrays, flws u.flows] 0)), (1, iStr name)]) ⟨rfl, rfl, rfl, trivial⟩, (k + 1), ?_, ?_, rfl, rfl, rfl⟩
   ·omega
   ·omega
   rw [hI1, hd]
   have h20 : eqS x.name name = false := by simpa [eqS] using hc20
   simp [z07, h20]
  refine tEx <| tQ <| tG <| sm 1 rfl <| nL <| tRt <| rOk rfl ?_ nPo
  have hge : u.flows.length <= k := by simpa using hc10
  rw [hI1, List.drop_eq_nil_of_le hge]
  rfl
theorem z83 (u : Un) (name : ByteArray) : SC Tryz.prog 51 [.pv u.enc, iStr name] [] (fun _ => False) (iInt (z1p name u.arrays 0)) [] := by
  refine SC.of Tryz.func51 rfl (lb rfl) fun F ρ w => ?_
  refine tQ <| tG <| cE rfl (z1c rfl rfl) <| sm 1 rfl <| nL <| tQ <| tQ <| tG <| sm 1 rfl <| nL <| tBk <| Tr.sub (Sub.of (fr' := [(5, iInt 0), (2, .pv (.ept [arrs u.arrays, flws u.flows] 0)), (1, iStr name)]) ⟨rfl, rfl, rfl, trivial⟩) ?_
  refine Tr.loop (fun fr σ m => ∃ (k : Nat), (k <= u.arrays.length) /\ (z1p name u.arrays 0 = z1p name (u.arrays.drop k) k) /\ fr = [(5, iInt k), (2, .pv (.ept [arrs u.arrays, flws u.flows] 0)), (1, iStr name)] /\ σ = look [] /\ m = u.arrays.length - k) (n := u.arrays.length - 0) ?_ ?_
  ·exact ⟨0, Nat.zero_le _, rfl, rfl, rfl, rfl⟩
  rintro fr σ m ⟨k, hI0, hI1, rfl, rfl, rfl⟩
  refine tQ <| tQ <| tG <| sm 3 rfl ?_
  refine WL.lenOf (t := 8) rfl (fun hl => ?_)
  simp only [List.length_map] at hl
  refine cV rfl (oSm uT22 rfl) <| sm 1 rfl <| nL ?_
  refine tC rfl (fun hc10 => ?_) fun hc10 => ?_
  ·have hlt : k < u.arrays.length := by simpa using hc10
   have hd := List.drop_eq_getElem_cons hlt
   have hm := List.getElem_mem hlt
   have hi := z0a (f := Ar.enc) (List.getElem?_eq_getElem hlt)
   generalize u.arrays[k] = x at hd hm hi
   refine tSk <| tQ <| tBk <| tQ <| tG <| sm 3 rfl <| cV rfl (iSq rfl rfl rfl uT22 (by assumption) tS49 rfl (by rfl)) <| sm 3 rfl <| cV rfl (bSt rfl rfl rfl rfl) <| nL ?_
   refine tC rfl (fun hc20 => ?_) fun hc20 => ?_
   ·refine tQ <| tG <| sm 2 rfl <| nL <| tRt <| rOk rfl ?_ nPo
    rw [hI1, hd]
    have h20 : eqS x.name name = true := by simpa [eqS] using hc20
    simp [z1p, h20]
   refine tSk <| tG <| sm 1 rfl <| cV rfl (oB rfl rfl (z03 rfl oM0)) <| sm 1 rfl <| nL ?_
   refine ⟨_, _, ?_, Sub.of (fr' := [(5, iInt (k + 1)), (2, .pv (.ept [arrs u.arrays, flws u.flows] 0)), (1, iStr name)]) ⟨rfl, rfl, rfl, trivial⟩, (k + 1), ?_, ?_, rfl, rfl, rfl⟩
   ·omega
   ·omega
   rw [hI1, hd]
   have h20 : eqS x.name name = false := by simpa [eqS] using hc20
   simp [z1p, h20]
  refine tEx <| tQ <| tG <| sm 1 rfl <| nL <| tRt <| rOk rfl ?_ nPo
  have hge : u.arrays.length <= k := by simpa using hc10
  rw [hI1, List.drop_eq_nil_of_le hge]
  rfl
theorem z1a (u : Un) (f : Fl) (set : List Bool) (l seen want : List Int) : SC Tryz.prog 102 [.ptr 3 0, .pv (ints l), .pv (ints seen), .pv (ints want)] (ckHp u f 4 set) (fun _ => True) (iBool (z0b f.types seen l want)) (ckHp u f 4 set) := by
  refine SC.of Tryz.func102 rfl (lb rfl) fun F ρ w => ?_
  refine Tr.lenOf (t := 1) rfl (fun hl => ?_)
  simp only [List.length_map] at hl
  refine Tr.lenOf (t := 3) rfl (fun hl3 => ?_)
  simp only [List.length_map] at hl3
  refine tQ <| tG <| sm 1 rfl <| nL <| tQ <| tQ <| tG <| sm 1 rfl <| cV rfl (oSm uT35 rfl) <| sm 1 rfl <| cV rfl (oSm uT35 rfl) <| sm 1 rfl ?_
  refine nL ?_
  refine tC rfl (fun hc14 => ?_) fun hc14 => ?_
  ·refine tQ <| tG <| sm 1 rfl <| nL <| tRt <| rOk rfl ?_ (fun _ _ h => h)
   have : ((l.length : Int) == want.length) = false := by simpa using hc14
   simp [z0b, this]
  have hlen : l.length = want.length := by simp at hc14; omega
  refine tSk <| tQ <| tQ <| tG <| sm 1 rfl <| nL <| tBk <| Tr.sub (Sub.of (fr' := [(9, iInt 0), (0, .ptr 3 0), (1, .pv (ints l)), (2, .pv (ints seen)), (3, .pv (ints want))]) ⟨rfl, rfl, rfl, rfl, rfl, trivial⟩) ?_
  refine Tr.loop (fun fr σ m => ∃ (k : Nat), (k <= l.length) /\ (z15 f.types seen l want = z15 f.types seen (l.drop k) (want.drop k)) /\ fr = [(9, iInt k), (0, .ptr 3 0), (1, .pv (ints l)), (2, .pv (ints seen)), (3, .pv (ints want))] /\ σ = look (up (ckHp u f 4 set)) /\ m = l.length - k) (n := l.length - 0) ?_ ?_
  ·exact ⟨0, Nat.zero_le _, rfl, rfl, rfl, rfl⟩
  rintro fr σ m ⟨k, hI0, hI1, rfl, rfl, rfl⟩
  refine tQ <| tQ <| tG <| sm 2 rfl <| cV rfl (oSm uT35 rfl) <| sm 1 rfl <| nL ?_
  refine tC rfl (fun hc18 => ?_) fun hc18 => ?_
  ·have hlt : k < l.length := by simpa using hc18
   have hd := List.drop_eq_getElem_cons hlt
   have hm := List.getElem_mem hlt
   have hi := z0a (f := eInt) (List.getElem?_eq_getElem hlt)
   generalize l[k] = x at hd hm hi
   have hltw : k < want.length := by omega
   have hdw := List.drop_eq_getElem_cons hltw
   have hw := z0a (f := eInt) (List.getElem?_eq_getElem hltw)
   generalize want[k] = y at hdw hw
   refine tSk <| tQ <| tBk <| tQ <| tDr z1b (fun _ => True) <| wR 28 [0, 1, 2, 3, 4, 5, 6, 7, 8, 9, 10, 11, 12, 13, 14, 15, 16, 17, 18, 19, 20, 21, 22, 23] kR0 h30 <| smR 2 rfl <| rV rfl rfl (iSq rfl rfl rfl uT35 hi tS3 rfl (by rfl)) <| smR 3 rfl ?_
   refine WR.split (t := 26) rfl (fun hb26 => ?_) (fun hb26 => ?_)
   ·refine smR 18 rfl <| nR <| wN 24 kR0 h30 rfl rfl rfl <| wR 0 [25, 26, 27, 28, 29, 30, 31, 32, 33, 34, 35, 36, 37, 38, 39, 40, 41, 42, 43, 44, 45, 46, 47, 48, 49, 50, 51] kR0 h30 <| smR 9 rfl <| nUr rfl rfl rfl rfl rfl rfl rfl <| nUr rfl rfl rfl rfl rfl rfl rfl <| nUr rfl rfl rfl rfl rfl rfl rfl <| nUr rfl rfl rfl rfl rfl rfl rfl <| nUr rfl rfl rfl rfl rfl rfl rfl <| nUr rfl rfl rfl rfl rfl rfl rfl <| nUr rfl rfl rfl rfl rfl rfl rfl ?_
    refine nUr rfl rfl rfl rfl rfl rfl rfl <| nUr rfl rfl rfl rfl rfl rfl rfl <| nUr rfl rfl rfl rfl rfl rfl rfl <| nUr rfl rfl rfl rfl rfl rfl rfl <| nUr rfl rfl rfl rfl rfl rfl rfl <| nUr rfl rfl rfl rfl rfl rfl rfl <| nUr rfl rfl rfl rfl rfl rfl rfl <| nUr rfl rfl rfl rfl rfl rfl rfl <| nUr rfl rfl rfl rfl rfl rfl rfl <| smR 2 rfl <| nR <| wDn kR0 ?_
    refine Tr.condT rfl <| tQ <| tG <| sm 1 rfl <| nL <| tRt <| rOk rfl ?_ (fun _ _ h => h)
    have hu : z5s f.types seen x y = false := by (try clear hvx); simp_all [z5s]
    simp [z0b, hI1, hd, hdw, z15, hu]
   refine smR 2 rfl <| ryV rfl rfl rfl (iSq rfl rfl rfl uT35 hi tS3 rfl (by rfl)) <| smR 2 rfl <| ryV rfl rfl rfl (nCk rfl rfl rfl) <| smR 2 rfl <| ryV rfl rfl rfl (oLb uT35 rfl rfl rfl trivial) <| ryV rfl rfl rfl (oSm uT35 rfl) <| smR 3 rfl ?_
   refine WR.split (t := 39) rfl (fun hb39 => ?_) (fun hb39 => ?_)
   ·refine smR 5 rfl <| nR <| wN 24 kR0 h30 rfl rfl rfl <| wR 0 [25, 26, 27, 28, 29, 30, 31, 32, 33, 34, 35, 36, 37, 38, 39, 40, 41, 42, 43, 44, 45, 46, 47, 48, 49, 50, 51] kR0 h30 <| smR 9 rfl <| nUr rfl rfl rfl rfl rfl rfl rfl <| nUr rfl rfl rfl rfl rfl rfl rfl <| nUr rfl rfl rfl rfl rfl rfl rfl <| nUr rfl rfl rfl rfl rfl rfl rfl <| nUr rfl rfl rfl rfl rfl rfl rfl <| nUr rfl rfl rfl rfl rfl rfl rfl <| nUr rfl rfl rfl rfl rfl rfl rfl ?_
    refine nUr rfl rfl rfl rfl rfl rfl rfl <| nUr rfl rfl rfl rfl rfl rfl rfl <| nUr rfl rfl rfl rfl rfl rfl rfl <| nUr rfl rfl rfl rfl rfl rfl rfl <| nUr rfl rfl rfl rfl rfl rfl rfl <| nUr rfl rfl rfl rfl rfl rfl rfl <| nUr rfl rfl rfl rfl rfl rfl rfl <| nUr rfl rfl rfl rfl rfl rfl rfl <| nUr rfl rfl rfl rfl rfl rfl rfl <| smR 2 rfl <| nR <| wDn kR0 ?_
    refine Tr.condT rfl <| tQ <| tG <| sm 1 rfl <| nL <| tRt <| rOk rfl ?_ (fun _ _ h => h)
    have hu : z5s f.types seen x y = false := by (try clear hvx); simp_all [z5s]
    simp [z0b, hI1, hd, hdw, z15, hu]
   have hv0 : x.toNat < f.types.length := by simp at hb26 hb39; omega
   have hvx : x = ((x.toNat : Nat) : Int) := by simp at hb26; omega
   have hty : (f.types.map eInt)[x.toNat]? = some [vInt (f.types.getD x.toNat 0)] := by rw [List.getElem?_map]; simp [eInt, List.getD, hv0]
   refine smR 3 rfl <| ryV rfl rfl rfl (iSq rfl rfl rfl uT35 hi tS3 rfl (by rfl)) <| smR 1 rfl <| nR <| wO 24 kR0 <| wY rfl rfl rfl (fun _ _ => trivial) nw (fun _ _ => ocq (sc_r8in _ _) ent114 rfl rfl) <| wR 0 [25, 26, 27, 28, 29, 30, 31, 32, 33, 34, 35, 36, 37, 38, 39, 40, 41, 42, 43, 44, 45, 46, 47, 48, 49, 50, 51] kR0 h30 <| smR 3 rfl ?_
   refine WR.split (t := 48) rfl (fun hb48 => ?_) (fun hb48 => ?_)
   ·refine smR 6 rfl <| nUr rfl rfl rfl rfl rfl rfl rfl <| nUr rfl rfl rfl rfl rfl rfl rfl <| nUr rfl rfl rfl rfl rfl rfl rfl <| nUr rfl rfl rfl rfl rfl rfl rfl <| nUr rfl rfl rfl rfl rfl rfl rfl <| nUr rfl rfl rfl rfl rfl rfl rfl <| nUr rfl rfl rfl rfl rfl rfl rfl <| nUr rfl rfl rfl rfl rfl rfl rfl <| nUr rfl rfl rfl rfl rfl rfl rfl <| nUr rfl rfl rfl rfl rfl rfl rfl <| nUr rfl rfl rfl rfl rfl rfl rfl ?_
    refine nUr rfl rfl rfl rfl rfl rfl rfl <| nUr rfl rfl rfl rfl rfl rfl rfl <| nUr rfl rfl rfl rfl rfl rfl rfl <| nUr rfl rfl rfl rfl rfl rfl rfl <| nUr rfl rfl rfl rfl rfl rfl rfl <| smR 2 rfl <| nR <| wDn kR0 <| Tr.condT rfl <| tQ <| tG <| sm 1 rfl ?_
    refine nL <| tRt <| rOk rfl ?_ (fun _ _ h => h)
    have hu : z5s f.types seen x y = false := by (try clear hvx); simp_all [z5s]
    simp [z0b, hI1, hd, hdw, z15, hu]
   refine smR 2 rfl <| ryV rfl rfl rfl (iSq rfl rfl rfl uT35 hw tS3 rfl (by rfl)) <| smR 3 rfl ?_
   refine WR.split (t := 54) rfl (fun hb54 => ?_) (fun hb54 => ?_)
   ·refine smR 1 rfl <| ryV rfl rfl rfl (nCk rfl rfl rfl) <| smR 2 rfl <| ryV rfl rfl rfl (oLb uT35 rfl rfl rfl trivial) <| smR 2 rfl <| ryV rfl rfl rfl (iSq rfl rfl rfl uT35 hi tS3 rfl (by rfl)) <| smR 1 rfl <| ryV rfl rfl rfl (iSq rfl rfl rfl uT35 hty tS3 rfl oM0) <| smR 3 rfl <| ryV rfl rfl rfl (iSq rfl rfl rfl uT35 hw tS3 rfl (by rfl)) <| smR 4 rfl <| nR ?_
    refine wDn kR0 ?_
    refine tC rfl (fun hc72 => ?_) fun hc72 => ?_
    ·refine tQ <| tG <| sm 1 rfl <| nL <| tRt <| rOk rfl ?_ (fun _ _ h => h)
     have hu : z5s f.types seen x y = false := by (try clear hvx); simp_all [z5s]
     simp [z0b, hI1, hd, hdw, z15, hu]
    refine tSk <| tG <| sm 1 rfl <| cV rfl (oB rfl rfl (z03 rfl oM0)) <| sm 1 rfl <| nL ?_
    refine ⟨_, _, ?_, Sub.of (fr' := [(9, iInt (k + 1)), (0, .ptr 3 0), (1, .pv (ints l)), (2, .pv (ints seen)), (3, .pv (ints want))]) ⟨rfl, rfl, rfl, rfl, rfl, trivial⟩, (k + 1), ?_, ?_, rfl, rfl, rfl⟩
    ·omega
    ·omega
    rw [hI1, hd, hdw]
    have hu : z5s f.types seen x y = true := by (try clear hvx); simp_all [z5s]
    simp [z15, hu]
   refine smR 18 rfl <| nR <| wDn kR0 <| Tr.condF rfl <| tSk <| tG <| sm 1 rfl <| cV rfl (oB rfl rfl (z03 rfl oM0)) <| sm 1 rfl <| nL ?_
   refine ⟨_, _, ?_, Sub.of (fr' := [(9, iInt (k + 1)), (0, .ptr 3 0), (1, .pv (ints l)), (2, .pv (ints seen)), (3, .pv (ints want))]) ⟨rfl, rfl, rfl, rfl, rfl, trivial⟩, (k + 1), ?_, ?_, rfl, rfl, rfl⟩
   ·omega
   ·omega
   rw [hI1, hd, hdw]
   have hu : z5s f.types seen x y = true := by (try clear hvx); simp_all [z5s]
   simp [z15, hu]
  refine tEx <| tQ <| tG <| sm 1 rfl <| nL <| tRt <| rOk rfl ?_ (fun _ _ h => h)
  have hge : l.length <= k := by simpa using hc18
  have : ((l.length : Int) == want.length) = true := by simpa using congrArg Nat.cast hlen
  simp [z0b, hI1, List.drop_eq_nil_of_le hge, z15, this]
theorem z1d (u : Un) (f : Fl) (set : List Bool) (l want : List Int) (hs : set.length = f.types.length) : SC Tryz.prog 103 [.ptr 3 0, .pv (ints l), .pv (ints want)] (ckHp u f 4 set) (fun k => k = 3) (iBool (z0e f.types set l want).1) (ckHp u f 4 (z0e f.types set l want).2) := by
  refine SC.of Tryz.func103 rfl (lb rfl) fun F ρ w => ?_
  refine Tr.lenOf (t := 1) rfl (fun hl => ?_)
  simp only [List.length_map] at hl
  refine Tr.lenOf (t := 2) rfl (fun hl3 => ?_)
  simp only [List.length_map] at hl3
  refine tQ <| tG <| sm 1 rfl <| nL <| tQ <| tQ <| tG <| sm 1 rfl <| cV rfl (oSm uT35 rfl) <| sm 1 rfl <| cV rfl (oSm uT35 rfl) <| sm 1 rfl ?_
  refine nL ?_
  refine tC rfl (fun hc12 => ?_) fun hc12 => ?_
  ·refine tQ <| tG <| sm 1 rfl <| nL <| tRt <| rOk rfl ?_ ?_
   ·have : ((l.length : Int) == want.length) = false := by simpa using hc12
    simp [z0e, this]
   have : ((l.length : Int) == want.length) = false := by simpa using hc12
   simp only [z0e, this]
   exact fun _ _ h => h
  have hlen : l.length = want.length := by simp at hc12; omega
  refine tSk <| tQ <| tQ <| tG <| sm 1 rfl <| nL <| tBk <| Tr.sub (Sub.of (fr' := [(7, iInt 0), (0, .ptr 3 0), (1, .pv (ints l)), (2, .pv (ints want))]) ⟨rfl, rfl, rfl, rfl, trivial⟩) ?_
  refine Tr.loop (fun fr σ m => ∃ (k : Nat) (st : List Bool), (k <= l.length) /\ (z1i f.types set l want = z1i f.types st (l.drop k) (want.drop k)) /\ (st.length = f.types.length) /\ fr = [(7, iInt k), (0, .ptr 3 0), (1, .pv (ints l)), (2, .pv (ints want))] /\ σ = look (up (ckHp u f 4 st)) /\ m = l.length - k) (n := l.length - 0) ?_ ?_
  ·exact ⟨0, set, Nat.zero_le _, rfl, hs, rfl, rfl, rfl⟩
  rintro fr σ m ⟨k, st, hI0, hI1, hI2, rfl, rfl, rfl⟩
  refine tQ <| tQ <| tG <| sm 2 rfl <| cV rfl (oSm uT35 rfl) <| sm 1 rfl <| nL ?_
  refine tC rfl (fun hc16 => ?_) fun hc16 => ?_
  ·have hlt : k < l.length := by simpa using hc16
   have hd := List.drop_eq_getElem_cons hlt
   have hm := List.getElem_mem hlt
   have hi := z0a (f := eInt) (List.getElem?_eq_getElem hlt)
   generalize l[k] = x at hd hm hi
   have hltw : k < want.length := by omega
   have hdw := List.drop_eq_getElem_cons hltw
   have hw := z0a (f := eInt) (List.getElem?_eq_getElem hltw)
   generalize want[k] = y at hdw hw
   refine tSk <| tQ <| tBk <| tQ <| tQ <| Tr.still z1b kR0 rfl <| smS 2 rfl <| sV rfl (iSq rfl rfl rfl uT35 hi tS3 rfl (by rfl)) <| smS 3 rfl ?_
   refine WS.split (t := 24) rfl (fun hb24 => ?_) (fun hb24 => ?_)
   ·refine smS 31 rfl <| WS.noU rfl rfl rfl rfl rfl rfl <| WS.noU rfl rfl rfl rfl rfl rfl <| WS.noU rfl rfl rfl rfl rfl rfl <| WS.noU rfl rfl rfl rfl rfl rfl <| WS.noU rfl rfl rfl rfl rfl rfl <| WS.noU rfl rfl rfl rfl rfl rfl <| WS.noU rfl rfl rfl rfl rfl rfl <| WS.noU rfl rfl rfl rfl rfl rfl <| WS.noU rfl rfl rfl rfl rfl rfl <| WS.noU rfl rfl rfl rfl rfl rfl <| WS.noU rfl rfl rfl rfl rfl rfl ?_
    refine WS.noU rfl rfl rfl rfl rfl rfl <| WS.noU rfl rfl rfl rfl rfl rfl <| WS.noU rfl rfl rfl rfl rfl rfl <| WS.noU rfl rfl rfl rfl rfl rfl <| WS.noU rfl rfl rfl rfl rfl rfl <| smS 2 rfl <| WS.nil <| Tr.condT rfl <| tQ <| tG <| sm 1 rfl <| nL ?_
    refine tRt ?_
    have hu : z75 f.types st x y = true := by (try clear hvx); simp_all [z75]
    have hsum : z0e f.types set l want = (false, st) := by simp [z0e, hlen, hI1, hd, hdw, z1i, hu]
    rw [hsum]
    exact rOk rfl rfl (fun _ _ h => h)
   refine smS 2 rfl <| syV rfl rfl (iSq rfl rfl rfl uT35 hi tS3 rfl (by rfl)) <| smS 2 rfl <| syV rfl rfl (nCk rfl rfl rfl) <| smS 3 rfl <| syV rfl rfl (oSm uT35 rfl) <| smS 3 rfl ?_
   refine WS.split (t := 37) rfl (fun hb37 => ?_) (fun hb37 => ?_)
   ·refine smS 18 rfl <| WS.noU rfl rfl rfl rfl rfl rfl <| WS.noU rfl rfl rfl rfl rfl rfl <| WS.noU rfl rfl rfl rfl rfl rfl <| WS.noU rfl rfl rfl rfl rfl rfl <| WS.noU rfl rfl rfl rfl rfl rfl <| WS.noU rfl rfl rfl rfl rfl rfl <| WS.noU rfl rfl rfl rfl rfl rfl <| WS.noU rfl rfl rfl rfl rfl rfl <| WS.noU rfl rfl rfl rfl rfl rfl <| WS.noU rfl rfl rfl rfl rfl rfl <| WS.noU rfl rfl rfl rfl rfl rfl ?_
    refine WS.noU rfl rfl rfl rfl rfl rfl <| WS.noU rfl rfl rfl rfl rfl rfl <| WS.noU rfl rfl rfl rfl rfl rfl <| WS.noU rfl rfl rfl rfl rfl rfl <| WS.noU rfl rfl rfl rfl rfl rfl <| smS 2 rfl <| WS.nil <| Tr.condT rfl <| tQ <| tG <| sm 1 rfl <| nL ?_
    refine tRt ?_
    have hu : z75 f.types st x y = true := by (try clear hvx); simp_all [z75]
    have hsum : z0e f.types set l want = (false, st) := by simp [z0e, hlen, hI1, hd, hdw, z1i, hu]
    rw [hsum]
    exact rOk rfl rfl (fun _ _ h => h)
   have hv0 : x.toNat < f.types.length := by simp at hb24 hb37; omega
   have hvx : x = ((x.toNat : Nat) : Int) := by simp at hb24; omega
   have hty : (f.types.map eInt)[x.toNat]? = some [vInt (f.types.getD x.toNat 0)] := by rw [List.getElem?_map]; simp [eInt, List.getD, hv0]
   have hst : (st.map zc8)[x.toNat]? = some [vBool (st.getD x.toNat false)] := by rw [List.getElem?_map]; simp [zc8, List.getD, hI2, hv0]
   have hstl : x.toNat < (st.map zc8).length := by simpa [hI2] using hv0
   refine smS 1 rfl <| syV rfl rfl (nCk rfl rfl rfl) <| smS 4 rfl <| syV rfl rfl (iSq rfl rfl rfl uT35 hi tS3 rfl (by rfl)) <| smS 1 rfl <| syV rfl rfl (iRw rfl rfl rfl rfl rfl Tryz.underlying86 tS4 (by assumption) oM0) <| syV rfl rfl (lRw rfl rfl rfl rfl (Nat.add_zero _).symm (by assumption) rfl Tryz.underlying4 rfl trivial) <| smS 2 rfl ?_
   refine WS.split (t := 49) rfl (fun hb49 => ?_) (fun hb49 => ?_)
   ·refine smS 6 rfl <| WS.noU rfl rfl rfl rfl rfl rfl <| WS.noU rfl rfl rfl rfl rfl rfl <| WS.noU rfl rfl rfl rfl rfl rfl <| WS.noU rfl rfl rfl rfl rfl rfl <| WS.noU rfl rfl rfl rfl rfl rfl <| WS.noU rfl rfl rfl rfl rfl rfl <| WS.noU rfl rfl rfl rfl rfl rfl <| WS.noU rfl rfl rfl rfl rfl rfl <| WS.noU rfl rfl rfl rfl rfl rfl <| WS.noU rfl rfl rfl rfl rfl rfl <| WS.noU rfl rfl rfl rfl rfl rfl ?_
    refine WS.noU rfl rfl rfl rfl rfl rfl <| WS.noU rfl rfl rfl rfl rfl rfl <| WS.noU rfl rfl rfl rfl rfl rfl <| WS.noU rfl rfl rfl rfl rfl rfl <| WS.noU rfl rfl rfl rfl rfl rfl <| smS 2 rfl <| WS.nil <| Tr.condT rfl <| tQ <| tG <| sm 1 rfl <| nL ?_
    refine tRt ?_
    have hu : z75 f.types st x y = true := by (try clear hvx); simp_all [z75]
    have hsum : z0e f.types set l want = (false, st) := by simp [z0e, hlen, hI1, hd, hdw, z1i, hu]
    rw [hsum]
    exact rOk rfl rfl (fun _ _ h => h)
   refine smS 2 rfl <| syV rfl rfl (iSq rfl rfl rfl uT35 hw tS3 rfl (by rfl)) <| smS 3 rfl ?_
   refine WS.split (t := 55) rfl (fun hb55 => ?_) (fun hb55 => ?_)
   ·refine smS 1 rfl <| syV rfl rfl (nCk rfl rfl rfl) <| smS 5 rfl <| syV rfl rfl (iSq rfl rfl rfl uT35 hi tS3 rfl (by rfl)) <| smS 1 rfl <| syV rfl rfl (iSq rfl rfl rfl uT35 hty tS3 rfl oM0) <| smS 3 rfl <| syV rfl rfl (iSq rfl rfl rfl uT35 hw tS3 rfl (by rfl)) <| smS 4 rfl <| WS.nil ?_
    refine tC rfl (fun hc73 => ?_) fun hc73 => ?_
    ·refine tQ <| tG <| sm 1 rfl <| nL <| tRt ?_
     have hu : z75 f.types st x y = true := by (try clear hvx); simp_all [z75]
     have hsum : z0e f.types set l want = (false, st) := by simp [z0e, hlen, hI1, hd, hdw, z1i, hu]
     rw [hsum]
     exact rOk rfl rfl (fun _ _ h => h)
    refine tSk <| tDr z1b (fun k => k ∈ ([3] : List Nat)) <| wR 1 [0, 1, 2, 3, 4, 5, 6, 7, 8] kR0 h30 <| smR 1 rfl <| rV rfl rfl (nCk rfl rfl rfl) <| smR 1 rfl <| rV rfl rfl (oLb Tryz.underlying86 rfl rfl rfl dC0) <| smR 2 rfl <| rV rfl rfl (iSq rfl rfl rfl uT35 hi tS3 rfl (by rfl)) <| smR 1 rfl <| rV rfl rfl (iRw rfl rfl rfl rfl rfl Tryz.underlying86 tS4 (by assumption) oM0) <| nR ?_
    refine wO 9 kR0 <| wI rfl rfl (fun k (h : _) => by (simp at h ⊢; omega)) (nOl rfl) (fun _ _ => z1n rfl rfl rfl rfl rfl (Nat.add_zero _).symm (by assumption) sI0 tS4 rfl sI0) <| wDn kR0 <| tG <| sm 1 rfl <| cV rfl (oB rfl rfl (z03 rfl oM0)) <| sm 1 rfl <| nL ?_
    refine ⟨_, _, ?_, Sub.of (fr' := [(7, iInt (k + 1)), (0, .ptr 3 0), (1, .pv (ints l)), (2, .pv (ints want))]) ⟨rfl, rfl, rfl, rfl, trivial⟩, (k + 1), (st.set x.toNat true), ?_, ?_, ?_, rfl, (funext y1t), rfl⟩
    ·omega
    ·omega
    ·rw [hI1, hd, hdw]
     have hu : z75 f.types st x y = false := by (try clear hvx); simp_all [z75]
     simp [z1i, hu]
    simpa using hI2
   refine smS 18 rfl <| WS.nil <| Tr.condF rfl <| tSk <| tDr z1b (fun k => k ∈ ([3] : List Nat)) <| wR 1 [0, 1, 2, 3, 4, 5, 6, 7, 8] kR0 h30 <| smR 1 rfl <| rV rfl rfl (nCk rfl rfl rfl) <| smR 1 rfl <| rV rfl rfl (oLb Tryz.underlying86 rfl rfl rfl dC0) <| smR 2 rfl <| rV rfl rfl (iSq rfl rfl rfl uT35 hi tS3 rfl (by rfl)) ?_
   refine smR 1 rfl <| rV rfl rfl (iRw rfl rfl rfl rfl rfl Tryz.underlying86 tS4 (by assumption) oM0) <| nR <| wO 9 kR0 <| wI rfl rfl (fun k (h : _) => by (simp at h ⊢; omega)) (nOl rfl) (fun _ _ => z1n rfl rfl rfl rfl rfl (Nat.add_zero _).symm (by assumption) sI0 tS4 rfl sI0) <| wDn kR0 <| tG <| sm 1 rfl <| cV rfl (oB rfl rfl (z03 rfl oM0)) <| sm 1 rfl <| nL ?_
   refine ⟨_, _, ?_, Sub.of (fr' := [(7, iInt (k + 1)), (0, .ptr 3 0), (1, .pv (ints l)), (2, .pv (ints want))]) ⟨rfl, rfl, rfl, rfl, trivial⟩, (k + 1), (st.set x.toNat true), ?_, ?_, ?_, rfl, (funext y1t), rfl⟩
   ·omega
   ·omega
   ·rw [hI1, hd, hdw]
    have hu : z75 f.types st x y = false := by (try clear hvx); simp_all [z75]
    simp [z1i, hu]
   simpa using hI2
  refine tEx <| tQ <| tG <| sm 1 rfl <| nL <| tRt ?_
  have hge : l.length <= k := by simpa using hc16
  have hsum : z0e f.types set l want = (true, st) := by simp [z0e, hlen, hI1, List.drop_eq_nil_of_le hge, z1i]
  rw [hsum]
  exact rOk rfl rfl (fun _ _ h => h)
theorem y3u (op : Int) : SC Tryz.prog 116 [iInt op] [] (fun _ => False) (iBool (z2p op)) [] := by
  refine SC.of Tryz.func116 rfl (lb rfl) fun F ρ w => ?_
  refine tQ <| tG <| sm 1 rfl <| nL <| tQ <| tG <| sm 3 rfl ?_
  refine wS 5 rfl (fun hb5 => ?_) fun hb5 => ?_
  ·refine sm 4 rfl <| nL <| tRt <| rOk rfl ?_ nPo
   first | (simp_all [z2p]; done) | (simp_all [z2p]; omega)
  refine sm 4 rfl <| nL <| tRt <| rOk rfl ?_ nPo
  first | (simp_all [z2p]; done) | (simp_all [z2p]; omega)
theorem y3v (op : Int) : SC Tryz.prog 117 [iInt op] [] (fun _ => False) (iBool (z3g op)) [] := by
  refine SC.of Tryz.func117 rfl (lb rfl) fun F ρ w => ?_
  refine tQ <| tG <| sm 1 rfl <| nL <| tQ <| tG <| sm 3 rfl ?_
  refine wS 5 rfl (fun hb5 => ?_) fun hb5 => ?_
  ·refine sm 4 rfl <| nL <| tRt <| rOk rfl ?_ nPo
   first | (simp_all [z3g]; done) | (simp_all [z3g]; omega)
  refine sm 4 rfl <| nL <| tRt <| rOk rfl ?_ nPo
  first | (simp_all [z3g]; done) | (simp_all [z3g]; omega)
theorem zc7 (op : Int) : SC Tryz.prog 115 [iInt op] [] (fun _ => False) (.tup [iInt (z0f op).1, iInt (z0f op).2]) [] := by
  refine SC.of Tryz.func115 rfl (lb rfl) fun F ρ w => ?_
  refine tQ <| tG <| sm 2 rfl <| nL <| tQ <| tBk <| tQ <| tG <| sm 3 rfl ?_
  refine wS 7 rfl (fun hb7 => ?_) fun hb7 => ?_
  ·refine sm 8 rfl <| nL <| Tr.condT rfl <| tQ <| tG <| sm 2 rfl <| nL <| tRt <| rOk rfl ?_ nPo
   first | (simp_all [z0f]; done) | (simp_all [z0f]; split <;> first | omega | (simp; done))
  refine sm 4 rfl ?_
  refine wS 11 rfl (fun hb11 => ?_) fun hb11 => ?_
  ·refine sm 4 rfl <| nL <| Tr.condT rfl <| tQ <| tG <| sm 2 rfl <| nL <| tRt <| rOk rfl ?_ nPo
   first | (simp_all [z0f]; done) | (simp_all [z0f]; split <;> first | omega | (simp; done))
  refine sm 4 rfl <| nL ?_
  refine tC rfl (fun hc4 => ?_) fun hc4 => ?_
  ·refine tQ <| tG <| sm 2 rfl <| nL <| tRt <| rOk rfl ?_ nPo
   first | (simp_all [z0f]; done) | (simp_all [z0f]; split <;> first | omega | (simp; done))
  refine tQ <| tG <| sm 3 rfl ?_
  refine wS 18 rfl (fun hb18 => ?_) fun hb18 => ?_
  ·refine sm 4 rfl <| nL <| Tr.condT rfl <| tQ <| tG <| sm 2 rfl <| nL <| tRt <| rOk rfl ?_ nPo
   first | (simp_all [z0f]; done) | (simp_all [z0f]; split <;> first | omega | (simp; done))
  refine sm 4 rfl <| nL ?_
  refine tC rfl (fun hc15 => ?_) fun hc15 => ?_
  ·refine tQ <| tG <| sm 2 rfl <| nL <| tRt <| rOk rfl ?_ nPo
   first | (simp_all [z0f]; done) | (simp_all [z0f]; split <;> first | omega | (simp; done))
  refine tQ <| tG <| sm 3 rfl ?_
  refine wS 25 rfl (fun hb25 => ?_) fun hb25 => ?_
  ·refine sm 4 rfl <| nL ?_
   refine tC rfl (fun hc22 => ?_) fun hc22 => ?_
   ·refine tQ <| tG <| sm 2 rfl <| nL <| tRt <| rOk rfl ?_ nPo
    first | (simp_all [z0f]; done) | (simp_all [z0f]; split <;> first | omega | (simp; done))
   refine tSk <| tQ <| tG <| sm 2 rfl <| nL <| tRt <| rOk rfl ?_ nPo
   first | (simp_all [z0f]; done) | (simp_all [z0f]; split <;> first | omega | (simp; done))
  refine sm 4 rfl <| nL <| Tr.condF rfl <| tSk <| tQ <| tG <| sm 2 rfl <| nL <| tRt <| rOk rfl ?_ nPo
  first | (simp_all [z0f]; done) | (simp_all [z0f]; split <;> first | omega | (simp; done))
theorem z66 (u : Un) (f : Fl) (set : List Bool) (l : List Int) (hb : l.length <= 1073741824) : SC Tryz.prog 101 [.ptr 3 0, .pv (ints l)] (ckHp u f 4 set) (fun k => k < 100) (.pv (ints (r8of f.types l))) (ckHp u f 4 set) := by
  refine SC.of Tryz.func101 rfl (lb rfl) fun F ρ w => ?_
  refine Tr.lenOf (t := 1) rfl (fun hl => ?_)
  simp only [List.length_map] at hl
  rw [y63]
  refine tQ <| tG <| sm 1 rfl <| nL <| tQ <| tG <| sm 1 rfl <| nL <| tQ <| tQ <| tG <| sm 1 rfl ?_
  refine nL <| tBk <| Tr.grow (t := 5) (k := 105) ⟨3, 1⟩ rfl rfl rfl rfl rfl <| Tr.sub (Sub.of (fr' := [(6, iInt 0), (5, .sl 105 0), (0, .ptr 3 0), (1, .pv (ints l))]) ⟨rfl, rfl, rfl, rfl, trivial⟩) ?_
  refine Tr.loop (fun fr σ m => ∃ (k : Nat) (st : List Int), (k <= l.length) /\ (st.length = k) /\ (z60 f.types [] l = z60 f.types st (l.drop k)) /\ fr = [(6, iInt k), (5, .sl 105 k), (0, .ptr 3 0), (1, .pv (ints l))] /\ σ = look ((105, some (.row ⟨3, 1⟩ (st.map eInt))) :: up (ckHp u f 4 set)) /\ m = l.length - k) (n := l.length - 0) ?_ ?_
  ·exact ⟨0, [], Nat.zero_le _, rfl, rfl, rfl, rfl, rfl⟩
  rintro fr σ m ⟨k, st, hI0, hI1, hI2, rfl, rfl, rfl⟩
  refine tQ <| tQ <| tG <| sm 2 rfl <| cV rfl (oSm uT35 rfl) <| sm 1 rfl <| nL ?_
  refine tC rfl (fun hc10 => ?_) fun hc10 => ?_
  ·have hlt : k < l.length := by simpa using hc10
   have hd := List.drop_eq_getElem_cons hlt
   have hm := List.getElem_mem hlt
   have hi := z0a (f := eInt) (List.getElem?_eq_getElem hlt)
   generalize l[k] = x at hd hm hi
   refine tSk <| tQ <| tBk <| tQ <| tQ <| Tr.still z1b kR0 rfl <| smS 2 rfl <| sV rfl (iSq rfl rfl rfl uT35 hi tS3 rfl (by rfl)) <| smS 3 rfl ?_
   refine WS.split (t := 18) rfl (fun hb18 => ?_) (fun hb18 => ?_)
   ·refine smS 12 rfl <| WS.nil <| Tr.condT rfl <| tQ <| tG <| sm 1 rfl <| nL <| tRt ?_
    have hin : z76 f.types x = false := by simp [z76] at *; omega
    rw [hI2, hd]
    simp only [z60, hin]
    exact ⟨⟨_, rfl, fun _ _ _ _ h => z3i h⟩, (po2 rfl rfl)⟩
   refine smS 2 rfl <| syV rfl rfl (iSq rfl rfl rfl uT35 hi tS3 rfl (by rfl)) <| smS 2 rfl <| syV rfl rfl (nCk rfl rfl rfl) <| smS 3 rfl <| syV rfl rfl (oSm uT35 rfl) <| smS 2 rfl <| WS.nil ?_
   refine tC rfl (fun hc30 => ?_) fun hc30 => ?_
   ·refine tQ <| tG <| sm 1 rfl <| nL <| tRt ?_
    have hin : z76 f.types x = false := by simp [z76] at *; omega
    rw [hI2, hd]
    simp only [z60, hin]
    exact ⟨⟨_, rfl, fun _ _ _ _ h => z3i h⟩, (po2 rfl rfl)⟩
   have hv0 : x.toNat < f.types.length := by simp at *; omega
   have hvx : x = ((x.toNat : Nat) : Int) := by simp at *; omega
   have hin : z76 f.types x = true := by simp [z76]; omega
   have hty : (f.types.map eInt)[x.toNat]? = some [vInt (f.types.getD x.toNat 0)] := by rw [List.getElem?_map]; simp [eInt, List.getD, hv0]
   refine tSk <| tDr z1b (fun k => k < 100) <| wR 3 [0, 1, 2, 3, 4, 5, 6, 7, 8, 9, 10, 11] kR0 h30 <| smR 2 rfl <| rV rfl rfl (nCk rfl rfl rfl) <| smR 2 rfl <| rV rfl rfl (oLb uT35 rfl rfl rfl dC0) <| smR 2 rfl <| rV rfl rfl (iSq rfl rfl rfl uT35 (by assumption) tS3 rfl (by rfl)) <| smR 1 rfl <| rV rfl rfl (iSq rfl rfl rfl uT35 hty tS3 rfl oM0) <| smR 1 rfl ?_
   refine nR <| wO 12 kR0 <| wI rfl rfl (fun k (h : _) => h) nw (fun _ _ => bSl rfl rfl uT35 tZ3 tS3 rfl rfl rfl rfl (fbk rfl) rfl) <| wO 13 kR0 ?_
   refine wI rfl rfl (fun k (h : _) => h) (nOl rfl) (fun _ _ => aPp rfl rfl rfl rfl (by (simp; omega)) sI0 uT35 tB3 dC0 (by simp [z0o]) (by (simp [z0o, PV.one]; rfl)) (by simp [maxLen, z0o]; omega) (by simp [z0o]; omega)) ?_
   refine wR 0 [14] kR0 h30 <| smR 1 rfl <| nR <| wDn kR0 <| tG <| sm 1 rfl <| cV rfl (oB rfl rfl (z03 rfl oM0)) <| sm 1 rfl <| nL ?_
   refine ⟨_, _, ?_, Sub.of (fr' := [(6, iInt (k + 1)), (5, .sl 105 (k + 1)), (0, .ptr 3 0), (1, .pv (ints l))]) ⟨rfl, rfl, rfl, rfl, trivial⟩, (k + 1), (st ++ [f.types.getD x.toNat 0]), ?_, ?_, ?_, rfl, zq1, rfl⟩
   ·omega
   ·omega
   ·simp [hI1]
   rw [hI2, hd]
   simp [z60, hin]
  refine tEx <| tQ ?_
  refine Tr.freeze (t := 5) (k := 105) rfl rfl (by simpa using hI1) ?_
  refine tG <| sm 2 rfl <| nL <| tRt <| rOk rfl ?_ (po2 rfl rfl)
  have hge : l.length <= k := by simpa using hc10
  rw [hI2, List.drop_eq_nil_of_le hge]
  rfl
theorem y18 (u : Un) (f : Fl) (set : List Bool) (hs : set.length = f.types.length) (hg : ∀ g ∈ u.flows, 0 <= g.params /\ g.params <= g.types.length) (x : Nd) (seen : List Int) (wh : Wh) : SC Tryz.prog 104 [.ptr 3 0, .pv (ndv x), .pv (ints seen), .pv (whv wh)] (ckHp u f 4 set) (fun k => k = 3) (iBool (z00 u f set x seen wh).1) (ckHp u f 4 (z00 u f set x seen wh).2) := by
  refine SC.of Tryz.func104 rfl (lb rfl) fun F ρ w => ?_
  refine tQ <| tG <| cE rfl (z1c rfl rfl) <| cE rfl (z1c rfl rfl) <| sm 1 rfl <| nL <| tQ <| tG <| cE rfl (bSl rfl rfl uT35 tZ3 tS3 rfl rfl rfl rfl (fbk rfl) rfl) <| cE rfl (bSl rfl rfl uT35 tZ3 tS3 rfl rfl rfl rfl (fbk rfl) rfl) <| sm 2 rfl <| nL ?_
  refine tQ <| tQ <| tG <| sm 2 rfl <| nL <| tBk <| tQ <| tG <| sm 2 rfl <| nL ?_
  refine tC rfl (fun hc20 => ?_) fun hc20 => ?_
  ·refine tQ <| tG <| sm 4 rfl <| cE rfl (z23 (z1a u f set x.args seen []) z43 rfl rfl (sSm rfl (sSm rfl (sSm rfl (Subs.cons (fun _ _ _ _ h => z3i h) Subs.nil)))) (po2 rfl rfl) rfl (fun _ _ => trivial) rfl rfl) <| sm 1 rfl ?_
   refine wS 27 rfl (fun hb27 => ?_) fun hb27 => ?_
   ·refine sm 4 rfl <| WL.yes rfl rfl rfl rfl rfl rfl (z23 (z1d u f set x.outs [1] hs) z3a rfl rfl (sRf _ _) (po2 rfl rfl) rfl (fun k (h : _) => h) rfl rfl) <| sm 2 rfl <| nL <| tRt ?_
    (have h2 : (z00 u f set x seen wh).2 = (z0e f.types set x.outs [1]).2 := (by (try clear hkn hgp); simp_all [z00, andS, z0g]; done)
     rw [h2]
     refine rOk rfl ?_ (po2 rfl rfl)
     clear h2
     try (clear hkn hgp)
     simp_all [z00, andS, z0g]
     done)
   refine sm 7 rfl <| nL <| tRt ?_
   (have h2 : (z00 u f set x seen wh).2 = set := (by (try clear hkn hgp); simp_all [z00, andS, z0g]; done)
    rw [h2]
    refine rOk rfl ?_ (po2 rfl rfl)
    clear h2
    try (clear hkn hgp)
    simp_all [z00, andS, z0g]
    done)
  refine tQ <| tG <| sm 2 rfl <| nL ?_
  refine tC rfl (fun hc34 => ?_) fun hc34 => ?_
  ·refine tQ <| tG <| sm 4 rfl ?_
   refine wS 39 rfl (fun hb39 => ?_) fun hb39 => ?_
   ·refine sm 9 rfl <| WL.yes rfl rfl rfl rfl rfl rfl (z23 (z1a u f set x.args seen []) z43 rfl rfl (sSm rfl (sSm rfl (sSm rfl (Subs.cons (fun _ _ _ _ h => z3i h) Subs.nil)))) (po2 rfl rfl) rfl (fun _ _ => trivial) rfl rfl) <| sm 2 rfl ?_
    refine wS 51 rfl (fun hb51 => ?_) fun hb51 => ?_
    ·refine sm 4 rfl <| WL.yes rfl rfl rfl rfl rfl rfl (z23 (z1d u f set x.outs [2] hs) z3a rfl rfl (sRf _ _) (po2 rfl rfl) rfl (fun k (h : _) => h) rfl rfl) <| sm 2 rfl <| nL <| tRt ?_
     (have h2 : (z00 u f set x seen wh).2 = (z0e f.types set x.outs [2]).2 := (by (try clear hkn hgp); simp_all [z00, andS, z0g]; done)
      rw [h2]
      refine rOk rfl ?_ (po2 rfl rfl)
      clear h2
      try (clear hkn hgp)
      simp_all [z00, andS, z0g]
      done)
    refine sm 7 rfl <| nL <| tRt ?_
    (have h2 : (z00 u f set x seen wh).2 = set := (by (try clear hkn hgp); simp_all [z00, andS, z0g]; done)
     rw [h2]
     refine rOk rfl ?_ (po2 rfl rfl)
     clear h2
     try (clear hkn hgp)
     simp_all [z00, andS, z0g]
     done)
   refine sm 5 rfl ?_
   refine wS 44 rfl (fun hb44 => ?_) fun hb44 => ?_
   ·refine sm 4 rfl <| WL.yes rfl rfl rfl rfl rfl rfl (z23 (z1a u f set x.args seen []) z43 rfl rfl (sSm rfl (sSm rfl (sSm rfl (Subs.cons (fun _ _ _ _ h => z3i h) Subs.nil)))) (po2 rfl rfl) rfl (fun _ _ => trivial) rfl rfl) <| sm 2 rfl ?_
    refine wS 51 rfl (fun hb51 => ?_) fun hb51 => ?_
    ·refine sm 4 rfl <| WL.yes rfl rfl rfl rfl rfl rfl (z23 (z1d u f set x.outs [2] hs) z3a rfl rfl (sRf _ _) (po2 rfl rfl) rfl (fun k (h : _) => h) rfl rfl) <| sm 2 rfl <| nL <| tRt ?_
     (have h2 : (z00 u f set x seen wh).2 = (z0e f.types set x.outs [2]).2 := (by (try clear hkn hgp); simp_all [z00, andS, z0g]; done)
      rw [h2]
      refine rOk rfl ?_ (po2 rfl rfl)
      clear h2
      try (clear hkn hgp)
      simp_all [z00, andS, z0g]
      done)
    refine sm 7 rfl <| nL <| tRt ?_
    (have h2 : (z00 u f set x seen wh).2 = set := (by (try clear hkn hgp); simp_all [z00, andS, z0g]; done)
     rw [h2]
     refine rOk rfl ?_ (po2 rfl rfl)
     clear h2
     try (clear hkn hgp)
     simp_all [z00, andS, z0g]
     done)
   refine sm 14 rfl <| nL <| tRt ?_
   (have h2 : (z00 u f set x seen wh).2 = set := (by (try clear hkn hgp); simp_all [z00, andS, z0g]; done)
    rw [h2]
    refine rOk rfl ?_ (po2 rfl rfl)
    clear h2
    try (clear hkn hgp)
    simp_all [z00, andS, z0g]
    done)
  refine tQ <| tG <| sm 2 rfl <| nL ?_
  refine tC rfl (fun hc58 => ?_) fun hc58 => ?_
  ·refine tQ <| tG <| sm 2 rfl <| cE rfl (ocq (zc7 _) ent115 rfl rfl) <| sm 1 rfl <| cV rfl (z1o rfl rfl rfl) <| cV rfl (z1o rfl rfl rfl) <| sm 2 rfl <| nL <| tQ <| tG <| sm 2 rfl ?_
   refine cE rfl (ocq (y3u _) ent116 rfl rfl) <| sm 1 rfl ?_
   refine wS 69 rfl (fun hb69 => ?_) fun hb69 => ?_
   ·refine sm 5 rfl <| WL.yes rfl rfl rfl rfl rfl rfl (bSl rfl rfl uT35 tZ3 tS3 rfl rfl rfl rfl (fbk rfl) rfl) <| WL.yes rfl rfl rfl rfl rfl rfl (z23 (z1a u f set x.args seen [(z0f x.op).1]) z43 rfl rfl (sRf _ _) (po2 rfl rfl) rfl (fun _ _ => trivial) rfl rfl) <| sm 2 rfl ?_
    refine wS 78 rfl (fun hb78 => ?_) fun hb78 => ?_
    ·refine sm 4 rfl <| WL.yes rfl rfl rfl rfl rfl rfl (bSl rfl rfl uT35 tZ3 tS3 rfl rfl rfl rfl (fbk rfl) rfl) <| WL.yes rfl rfl rfl rfl rfl rfl (z23 (z1d u f set x.outs [(z0f x.op).2] hs) z3a rfl rfl (sRf _ _) (po2 rfl rfl) rfl (fun k (h : _) => h) rfl rfl) <| sm 2 rfl <| nL <| tRt ?_
     (have h2 : (z00 u f set x seen wh).2 = (z0e f.types set x.outs [(z0f x.op).2]).2 := (by (try clear hkn hgp); simp_all [z00, andS, z0g]; done)
      rw [h2]
      refine rOk rfl ?_ (po2 rfl rfl)
      clear h2
      try (clear hkn hgp)
      simp_all [z00, andS, z0g]
      done)
    refine sm 8 rfl <| nL <| tRt ?_
    (have h2 : (z00 u f set x seen wh).2 = set := (by (try clear hkn hgp); simp_all [z00, andS, z0g]; done)
     rw [h2]
     refine rOk rfl ?_ (po2 rfl rfl)
     clear h2
     try (clear hkn hgp)
     simp_all [z00, andS, z0g]
     done)
   refine sm 17 rfl <| nL <| tRt ?_
   (have h2 : (z00 u f set x seen wh).2 = set := (by (try clear hkn hgp); simp_all [z00, andS, z0g]; done)
    rw [h2]
    refine rOk rfl ?_ (po2 rfl rfl)
    clear h2
    try (clear hkn hgp)
    simp_all [z00, andS, z0g]
    done)
  refine tQ <| tG <| sm 2 rfl <| nL ?_
  refine tC rfl (fun hc86 => ?_) fun hc86 => ?_
  ·refine tQ <| tG <| sm 2 rfl <| cE rfl (ocq (zc7 _) ent115 rfl rfl) <| sm 1 rfl <| cV rfl (z1o rfl rfl rfl) <| cV rfl (z1o rfl rfl rfl) <| sm 2 rfl <| nL <| tQ <| tDr z1b (fun k => k ∈ ([3] : List Nat)) <| wR 45 [0, 1] kR0 h30 ?_
   refine smR 2 rfl <| nR <| wO 2 kR0 <| wI rfl rfl (fun k (h : _) => by (simp at h ⊢; omega)) nw (fun _ _ => ocq (y3v _) ent117 rfl rfl) <| wR 37 [3, 4, 5, 6, 7, 8, 9] kR0 h30 <| smR 1 rfl ?_
   refine WR.split (t := 97) rfl (fun hb97 => ?_) (fun hb97 => ?_)
   ·refine smR 6 rfl <| nR <| wO 10 kR0 <| wY rfl rfl rfl (fun k (h : _) => by (simp at h ⊢; omega)) nw (fun _ _ => bSl rfl rfl uT35 tZ3 tS3 rfl rfl rfl rfl (fbk rfl) rfl) <| wO 11 kR0 <| wY rfl rfl rfl (fun k (h : _) => by (simp at h ⊢; omega)) (nAp rfl) (fun _ _ => z23 (z1a u f set x.args seen [(z0f x.op).1, (z0f x.op).1]) z43 rfl rfl (sRf _ _) (po2 rfl rfl) rfl (fun _ _ => trivial) rfl rfl) <| wR 4 [12, 13, 14, 15, 16, 17, 18, 19, 20, 21, 22, 23, 24, 25, 26, 27, 28, 29, 30, 31, 32, 33, 34, 35, 36, 37, 38, 39, 40, 41, 42] kR0 h30 <| smR 2 rfl ?_
    refine WR.split (t := 107) rfl (fun hb107 => ?_) (fun hb107 => ?_)
    ·obtain ⟨a, b, hab, ha0, hal, hb0, hbl⟩ := y0y (by simpa using hb107)
     have hi0 : (x.args.map eInt)[0]? = some [vInt a] := by rw [hab]; rfl
     have hi1 : (x.args.map eInt)[1]? = some [vInt b] := by rw [hab]; rfl
     have hta : (f.types.map eInt)[a.toNat]? = some [vInt (f.types.getD a.toNat 0)] := by rw [List.getElem?_map]; simp [eInt, List.getD, hal]
     have htb : (f.types.map eInt)[b.toNat]? = some [vInt (f.types.getD b.toNat 0)] := by rw [List.getElem?_map]; simp [eInt, List.getD, hbl]
     refine smR 1 rfl <| ryV rfl rfl rfl (nCk rfl rfl rfl) <| smR 2 rfl <| ryV rfl rfl rfl (oLb uT35 rfl rfl rfl dC0) <| smR 2 rfl <| ryV rfl rfl rfl (iSq rfl rfl rfl uT35 hi0 tS3 rfl (by rfl)) <| smR 1 rfl <| ryV rfl rfl rfl (iSq rfl rfl rfl uT35 hta tS3 rfl oM0) <| smR 2 rfl <| ryV rfl rfl rfl (nCk rfl rfl rfl) <| smR 2 rfl <| ryV rfl rfl rfl (oLb uT35 rfl rfl rfl dC0) ?_
     refine smR 2 rfl <| ryV rfl rfl rfl (iSq rfl rfl rfl uT35 hi1 tS3 rfl (by rfl)) <| smR 1 rfl <| ryV rfl rfl rfl (iSq rfl rfl rfl uT35 htb tS3 rfl oM0) <| smR 4 rfl ?_
     refine WR.split (t := 132) rfl (fun hb132 => ?_) (fun hb132 => ?_)
     ·refine smR 4 rfl <| nR <| wO 43 kR0 <| wY rfl rfl rfl (fun k (h : _) => by (simp at h ⊢; omega)) nw (fun _ _ => bSl rfl rfl uT35 tZ3 tS3 rfl rfl rfl rfl (fbk rfl) rfl) <| wO 44 kR0 <| wY rfl rfl rfl (fun k (h : _) => by (simp at h ⊢; omega)) (nAp rfl) (fun _ _ => z23 (z1d u f set x.outs [(z0f x.op).2] hs) z3a rfl rfl (sRf _ _) (po2 rfl rfl) rfl (fun k (h : _) => by (simpa using h)) rfl rfl) <| wR 0 [45, 46] kR0 h30 <| smR 2 rfl <| nR <| wDn kR0 <| tRt ?_
      (have h2 : (z00 u f set x seen wh).2 = (z0e f.types set x.outs [(z0f x.op).2]).2 := (by (try clear hkn hgp); simp_all [z00, andS, z0g]; done)
       rw [h2]
       refine rOk rfl ?_ (po2 rfl rfl)
       clear h2
       try (clear hkn hgp)
       simp_all [z00, andS, z0g]
       done)
     refine smR 4 rfl <| nR <| wN 43 kR0 h30 rfl rfl rfl <| wN 44 kR0 h30 rfl rfl rfl <| wR 0 [45, 46] kR0 h30 <| smR 2 rfl <| nR <| wDn kR0 <| tRt ?_
     (have h2 : (z00 u f set x seen wh).2 = set := (by (try clear hkn hgp); simp_all [z00, andS, z0g]; done)
      rw [h2]
      refine rOk rfl ?_ (po2 rfl rfl)
      clear h2
      try (clear hkn hgp)
      simp_all [z00, andS, z0g]
      done)
    refine smR 29 rfl <| nR <| wN 43 kR0 h30 rfl rfl rfl <| wN 44 kR0 h30 rfl rfl rfl <| wR 0 [45, 46] kR0 h30 <| smR 2 rfl <| nR <| wDn kR0 <| tRt ?_
    (have h2 : (z00 u f set x seen wh).2 = set := (by (try clear hkn hgp); simp_all [z00, andS, z0g]; done)
     rw [h2]
     refine rOk rfl ?_ (po2 rfl rfl)
     clear h2
     try (clear hkn hgp)
     simp_all [z00, andS, z0g]
     done)
   refine smR 6 rfl <| nR <| wN 10 kR0 h30 rfl rfl rfl <| wN 11 kR0 h30 rfl rfl rfl <| wR 4 [12, 13, 14, 15, 16, 17, 18, 19, 20, 21, 22, 23, 24, 25, 26, 27, 28, 29, 30, 31, 32, 33, 34, 35, 36, 37, 38, 39, 40, 41, 42] kR0 h30 <| smR 31 rfl <| nR <| wN 43 kR0 h30 rfl rfl rfl <| wN 44 kR0 h30 rfl rfl rfl <| wR 0 [45, 46] kR0 h30 <| smR 2 rfl <| nR ?_
   refine wDn kR0 <| tRt ?_
   (have h2 : (z00 u f set x seen wh).2 = set := (by (try clear hkn hgp); simp_all [z00, andS, z0g]; done)
    rw [h2]
    refine rOk rfl ?_ (po2 rfl rfl)
    clear h2
    try (clear hkn hgp)
    simp_all [z00, andS, z0g]
    done)
  refine tQ <| tG <| sm 2 rfl <| nL ?_
  refine tC rfl (fun hc140 => ?_) fun hc140 => ?_
  ·refine tQ <| tDr z1b (fun k => k ∈ ([3] : List Nat)) <| wR 18 [0, 1, 2, 3, 4, 5] kR0 h30 <| smR 1 rfl <| rV rfl rfl (nCk rfl rfl rfl) <| smR 1 rfl <| rV rfl rfl (lBP rfl rfl rfl uT25 rfl tS25 (lb rfl) rfl dC0) <| smR 2 rfl <| nR <| wO 6 kR0 <| wI rfl rfl (fun k (h : _) => by (simp at h ⊢; omega)) nw (fun _ _ => ocq (z83 _ _) ent51 rfl rfl) <| wR 10 [7, 8, 9, 10, 11, 12, 13] kR0 h30 ?_
   refine smR 2 rfl ?_
   refine WR.split (t := 150) rfl (fun hb150 => ?_) (fun hb150 => ?_)
   ·refine smR 5 rfl <| nR <| wO 14 kR0 <| wY rfl rfl rfl (fun k (h : _) => by (simp at h ⊢; omega)) (nAp rfl) (fun _ _ => z23 (z1a u f set x.args seen [1]) z43 rfl rfl (sRf _ _) (po2 rfl rfl) rfl (fun _ _ => trivial) rfl rfl) <| wR 3 [15, 16, 17, 18, 19, 20] kR0 h30 <| smR 2 rfl ?_
    refine WR.split (t := 158) rfl (fun hb158 => ?_) (fun hb158 => ?_)
    ·refine smR 4 rfl <| nR <| wO 21 kR0 <| wY rfl rfl rfl (fun k (h : _) => by (simp at h ⊢; omega)) (nAp rfl) (fun _ _ => z23 (z1d u f set x.outs [1] hs) z3a rfl rfl (sRf _ _) (po2 rfl rfl) rfl (fun k (h : _) => by (simpa using h)) rfl rfl) <| wR 0 [22, 23] kR0 h30 <| smR 2 rfl <| nR <| wDn kR0 <| tRt ?_
     (have h2 : (z00 u f set x seen wh).2 = (z0e f.types set x.outs [1]).2 := (by (try clear hkn hgp); simp_all [z00, andS, z0g]; done)
      rw [h2]
      refine rOk rfl ?_ (po2 rfl rfl)
      clear h2
      try (clear hkn hgp)
      simp_all [z00, andS, z0g]
      done)
    refine smR 4 rfl <| nR <| wN 21 kR0 h30 rfl rfl rfl <| wR 0 [22, 23] kR0 h30 <| smR 2 rfl <| nR <| wDn kR0 <| tRt ?_
    (have h2 : (z00 u f set x seen wh).2 = set := (by (try clear hkn hgp); simp_all [z00, andS, z0g]; done)
     rw [h2]
     refine rOk rfl ?_ (po2 rfl rfl)
     clear h2
     try (clear hkn hgp)
     simp_all [z00, andS, z0g]
     done)
   refine smR 5 rfl <| nR <| wN 14 kR0 h30 rfl rfl rfl <| wR 3 [15, 16, 17, 18, 19, 20] kR0 h30 <| smR 6 rfl <| nR <| wN 21 kR0 h30 rfl rfl rfl <| wR 0 [22, 23] kR0 h30 <| smR 2 rfl <| nR <| wDn kR0 <| tRt ?_
   (have h2 : z00 u f set x seen wh = (false, set) := (by unfold z00 z0g andS; simp only [*]; simp)
    rw [h2]
    exact rOk rfl rfl (po2 rfl rfl))
  refine tQ <| tG <| sm 2 rfl <| nL ?_
  refine tC rfl (fun hc165 => ?_) fun hc165 => ?_
  ·refine tQ <| tDr z1b (fun k => k ∈ ([3] : List Nat)) <| wR 17 [0, 1, 2, 3, 4, 5] kR0 h30 <| smR 1 rfl <| rV rfl rfl (nCk rfl rfl rfl) <| smR 1 rfl <| rV rfl rfl (lBP rfl rfl rfl uT25 rfl tS25 (lb rfl) rfl dC0) <| smR 2 rfl <| nR <| wO 6 kR0 <| wI rfl rfl (fun k (h : _) => by (simp at h ⊢; omega)) nw (fun _ _ => ocq (z83 _ _) ent51 rfl rfl) <| wR 10 [7, 8, 9, 10, 11, 12] kR0 h30 ?_
   refine smR 2 rfl ?_
   refine WR.split (t := 175) rfl (fun hb175 => ?_) (fun hb175 => ?_)
   ·refine smR 4 rfl <| nR <| wO 13 kR0 <| wY rfl rfl rfl (fun k (h : _) => by (simp at h ⊢; omega)) nw (fun _ _ => bSl rfl rfl uT35 tZ3 tS3 rfl rfl rfl rfl (fbk rfl) rfl) <| wO 14 kR0 <| wY rfl rfl rfl (fun k (h : _) => by (simp at h ⊢; omega)) (nAp rfl) (fun _ _ => z23 (z1a u f set x.args seen [1, 1]) z43 rfl rfl (sRf _ _) (po2 rfl rfl) rfl (fun _ _ => trivial) rfl rfl) <| wR 0 [15, 16, 17, 18, 19, 20, 21, 22] kR0 h30 <| smR 2 rfl ?_
    refine WR.split (t := 183) rfl (fun hb183 => ?_) (fun hb183 => ?_)
    ·refine smR 2 rfl <| ryV rfl rfl rfl (oSm uT35 rfl) <| smR 3 rfl <| nR <| wDn kR0 <| tRt ?_
     (have h2 : (z00 u f set x seen wh).2 = set := (by (try clear hkn hgp); simp_all [z00, andS, z0g]; done)
      rw [h2]
      refine rOk rfl ?_ (po2 rfl rfl)
      clear h2
      try (clear hkn hgp)
      simp_all [z00, andS, z0g]
      done)
    refine smR 6 rfl <| nR <| wDn kR0 <| tRt ?_
    (have h2 : (z00 u f set x seen wh).2 = set := (by (try clear hkn hgp); simp_all [z00, andS, z0g]; done)
     rw [h2]
     refine rOk rfl ?_ (po2 rfl rfl)
     clear h2
     try (clear hkn hgp)
     simp_all [z00, andS, z0g]
     done)
   refine smR 4 rfl <| nR <| wN 13 kR0 h30 rfl rfl rfl <| wN 14 kR0 h30 rfl rfl rfl <| wR 0 [15, 16, 17, 18, 19, 20, 21, 22] kR0 h30 <| smR 8 rfl <| nR <| wDn kR0 <| tRt ?_
   (have h2 : z00 u f set x seen wh = (false, set) := (by unfold z00 z0g andS; simp only [*]; simp)
    rw [h2]
    exact rOk rfl rfl (po2 rfl rfl))
  refine tQ <| tG <| sm 2 rfl <| nL ?_
  refine tC rfl (fun hc189 => ?_) fun hc189 => ?_
  ·refine tQ <| tDr z1b (fun k => k ∈ ([3] : List Nat)) <| wR 2 [0, 1, 2, 3, 4, 5] kR0 h30 <| smR 1 rfl <| rV rfl rfl (nCk rfl rfl rfl) <| smR 1 rfl <| rV rfl rfl (lBP rfl rfl rfl uT25 rfl tS25 (lb rfl) rfl dC0) <| smR 2 rfl <| nR <| wO 6 kR0 <| wI rfl rfl (fun k (h : _) => by (simp at h ⊢; omega)) nw (fun _ _ => ocq (z53 _ _) y2t rfl rfl) <| wR 0 [7] kR0 h30 ?_
   refine smR 1 rfl <| nR <| wDn kR0 <| tQ <| tDr z1b (fun k => k ∈ ([3] : List Nat)) <| wR 19 [0, 1, 2, 3, 4, 5, 6, 7, 8, 9, 10, 11, 12, 13, 14, 15, 16, 17, 18, 19, 20, 21, 22, 23, 24, 25] kR0 h30 <| smR 3 rfl ?_
   refine WR.split (t := 200) rfl (fun hb200 => ?_) (fun hb200 => ?_)
   ·have hk0 : z07 x.name u.flows 0 ≥ 0 := by simpa using hb200
    obtain ⟨g, hgk, _⟩ := z6c hk0
    obtain ⟨hgp0, hgpl⟩ := hg g (List.mem_of_getElem? hgk)
    have hgp : g.params = (g.params.toNat : Int) := by omega
    have hgi : (u.flows.map Fl.enc)[(z07 x.name u.flows 0).toNat]? = some (Fl.enc g) := by rw [List.getElem?_map, hgk]; rfl
    have hkn : z07 x.name u.flows 0 = ((z07 x.name u.flows 0).toNat : Int) := by omega
    refine smR 5 rfl <| ryV rfl rfl rfl (nCk rfl rfl rfl) <| smR 2 rfl <| ryV rfl rfl rfl (oLb uT23 rfl rfl rfl dC0) <| smR 1 rfl <| ryV rfl rfl rfl (iSq rfl rfl rfl uT23 hgi tS51 rfl oM0) <| smR 3 rfl <| ryV rfl rfl rfl (nCk rfl rfl rfl) <| smR 2 rfl <| ryV rfl rfl rfl (oLb uT23 rfl rfl rfl dC0) <| smR 1 rfl <| ryV rfl rfl rfl (iSq rfl rfl rfl uT23 hgi tS51 rfl oM0) ?_
    refine smR 2 rfl ?_
    refine ryV rfl rfl rfl (z4g (j := g.params.toNat) rfl rfl uT35 tS3 (.inl ⟨rfl, rfl⟩) (.inr ⟨_, _, rfl, congrArg (fun z => some (IV.pv (.val (.int .i64 z)))) hgp⟩) (Nat.zero_le _) (by simp; omega) (by simp [eInt])) ?_
    refine nR <| wO 26 kR0 ?_
    refine wY rfl rfl rfl (fun k (h : _) => by (simp at h ⊢; omega)) (nAp rfl) (fun _ _ => z23 (z1a u f set x.args seen (g.types.take g.params.toNat)) z43 rfl rfl (sSm rfl (sSm rfl (sSm rfl (sSm (by simp [ints, List.map_take]) Subs.nil)))) (po2 rfl rfl) rfl (fun _ _ => trivial) rfl rfl) ?_
    refine wR 4 [27, 28, 29, 30, 31, 32, 33, 34, 35, 36, 37, 38, 39, 40] kR0 h30 <| smR 2 rfl ?_
    refine WR.split (t := 226) rfl (fun hb226 => ?_) (fun hb226 => ?_)
    ·refine smR 4 rfl <| ryV rfl rfl rfl (nCk rfl rfl rfl) <| smR 2 rfl <| ryV rfl rfl rfl (oLb uT23 rfl rfl rfl dC0) <| smR 1 rfl <| ryV rfl rfl rfl (iSq rfl rfl rfl uT23 hgi tS51 rfl oM0) <| smR 2 rfl <| nR <| wO 41 kR0 <| wY rfl rfl rfl (fun k (h : _) => by (simp at h ⊢; omega)) nw (fun _ _ => bSl rfl rfl uT35 tZ3 tS3 rfl rfl rfl rfl (fbk rfl) rfl) <| wO 42 kR0 <| wY rfl rfl rfl (fun k (h : _) => by (simp at h ⊢; omega)) (nAp rfl) (fun _ _ => z23 (z1d u f set x.outs [g.ty] hs) z3a rfl rfl (sRf _ _) (po2 rfl rfl) rfl (fun k (h : _) => by (simpa using h)) rfl rfl) ?_
     refine wR 0 [43, 44] kR0 h30 <| smR 2 rfl <| nR <| wDn kR0 <| tRt ?_
     (have h2 : (z00 u f set x seen wh).2 = (z0e f.types set x.outs [g.ty]).2 := (by (try clear hkn hgp); simp_all [z00, andS, z0g]; done)
      rw [h2]
      refine rOk rfl ?_ (po2 rfl rfl)
      clear h2
      try (clear hkn hgp)
      simp_all [z00, andS, z0g]
      done)
    refine smR 12 rfl <| nR <| wN 41 kR0 h30 rfl rfl rfl <| wN 42 kR0 h30 rfl rfl rfl <| wR 0 [43, 44] kR0 h30 <| smR 2 rfl <| nR <| wDn kR0 <| tRt ?_
    (have h2 : (z00 u f set x seen wh).2 = set := (by (try clear hkn hgp); simp_all [z00, andS, z0g]; done)
     rw [h2]
     refine rOk rfl ?_ (po2 rfl rfl)
     clear h2
     try (clear hkn hgp)
     simp_all [z00, andS, z0g]
     done)
   refine smR 23 rfl <| nR <| wN 26 kR0 h30 rfl rfl rfl <| wR 4 [27, 28, 29, 30, 31, 32, 33, 34, 35, 36, 37, 38, 39, 40] kR0 h30 <| smR 14 rfl <| nR <| wN 41 kR0 h30 rfl rfl rfl <| wN 42 kR0 h30 rfl rfl rfl <| wR 0 [43, 44] kR0 h30 <| smR 2 rfl <| nR <| wDn kR0 ?_
   refine tRt ?_
   (have h2 : z00 u f set x seen wh = (false, set) := (by unfold z00 z0g andS; simp only [*]; simp)
    rw [h2]
    exact rOk rfl rfl (po2 rfl rfl))
  refine tQ <| tG <| sm 2 rfl <| nL ?_
  refine tC rfl (fun hc242 => ?_) fun hc242 => ?_
  ·refine tQ <| tG <| sm 2 rfl <| cV rfl (oSm uT35 rfl) <| sm 2 rfl ?_
   refine wS 248 rfl (fun hb248 => ?_) fun hb248 => ?_
   ·refine sm 4 rfl <| WL.yes rfl rfl rfl rfl rfl rfl (z23 (z1d u f set x.outs [1] hs) z3a rfl rfl (sRf _ _) (po2 rfl rfl) rfl (fun k (h : _) => h) rfl rfl) <| sm 2 rfl <| nL <| tRt ?_
    (have h2 : (z00 u f set x seen wh).2 = (z0e f.types set x.outs [1]).2 := (by (try clear hkn hgp); simp_all [z00, andS, z0g]; done)
     rw [h2]
     refine rOk rfl ?_ (po2 rfl rfl)
     clear h2
     try (clear hkn hgp)
     simp_all [z00, andS, z0g]
     done)
   refine sm 7 rfl <| nL <| tRt ?_
   (have h2 : (z00 u f set x seen wh).2 = set := (by (try clear hkn hgp); simp_all [z00, andS, z0g]; done)
    rw [h2]
    refine rOk rfl ?_ (po2 rfl rfl)
    clear h2
    try (clear hkn hgp)
    simp_all [z00, andS, z0g]
    done)
  refine tQ <| tG <| sm 2 rfl <| nL ?_
  refine tC rfl (fun hc255 => ?_) fun hc255 => ?_
  ·refine tQ <| tG <| sm 5 rfl <| cE rfl (z23 (z1a u f set x.args seen [1]) z43 rfl rfl (sRf _ _) (po2 rfl rfl) rfl (fun _ _ => trivial) rfl rfl) <| sm 1 rfl ?_
   refine wS 263 rfl (fun hb263 => ?_) fun hb263 => ?_
   ·refine sm 2 rfl <| yV rfl rfl (oSm uT35 rfl) <| sm 3 rfl <| nL <| tRt ?_
    (have h2 : (z00 u f set x seen wh).2 = set := (by (try clear hkn hgp); simp_all [z00, andS, z0g]; done)
     rw [h2]
     refine rOk rfl ?_ (po2 rfl rfl)
     clear h2
     try (clear hkn hgp)
     simp_all [z00, andS, z0g]
     done)
   refine sm 6 rfl <| nL <| tRt ?_
   (have h2 : (z00 u f set x seen wh).2 = set := (by (try clear hkn hgp); simp_all [z00, andS, z0g]; done)
    rw [h2]
    refine rOk rfl ?_ (po2 rfl rfl)
    clear h2
    try (clear hkn hgp)
    simp_all [z00, andS, z0g]
    done)
  refine tQ <| tG <| sm 2 rfl <| nL ?_
  refine tC rfl (fun hc269 => ?_) fun hc269 => ?_
  ·refine tQ <| tG <| sm 3 rfl ?_
   refine wS 273 rfl (fun hb273 => ?_) fun hb273 => ?_
   ·refine sm 6 rfl <| WL.yes rfl rfl rfl rfl rfl rfl (z23 (z1a u f set x.args seen wh.Yield) z43 rfl rfl (sRf _ _) (po2 rfl rfl) rfl (fun _ _ => trivial) rfl rfl) <| sm 2 rfl ?_
    refine wS 282 rfl (fun hb282 => ?_) fun hb282 => ?_
    ·refine sm 2 rfl <| yV rfl rfl (oSm uT35 rfl) <| sm 3 rfl <| nL <| tRt ?_
     (have h2 : (z00 u f set x seen wh).2 = set := (by (try clear hkn hgp); simp_all [z00, andS, z0g]; done)
      rw [h2]
      refine rOk rfl ?_ (po2 rfl rfl)
      clear h2
      try (clear hkn hgp)
      simp_all [z00, andS, z0g]
      done)
    refine sm 6 rfl <| nL <| tRt ?_
    (have h2 : (z00 u f set x seen wh).2 = set := (by (try clear hkn hgp); simp_all [z00, andS, z0g]; done)
     rw [h2]
     refine rOk rfl ?_ (po2 rfl rfl)
     clear h2
     try (clear hkn hgp)
     simp_all [z00, andS, z0g]
     done)
   refine sm 15 rfl <| nL <| tRt ?_
   (have h2 : (z00 u f set x seen wh).2 = set := (by (try clear hkn hgp); simp_all [z00, andS, z0g]; done)
    rw [h2]
    refine rOk rfl ?_ (po2 rfl rfl)
    clear h2
    try (clear hkn hgp)
    simp_all [z00, andS, z0g]
    done)
  refine tQ <| tG <| sm 2 rfl <| nL ?_
  refine tC rfl (fun hc288 => ?_) fun hc288 => ?_
  ·refine tQ <| tG <| sm 3 rfl ?_
   refine wS 292 rfl (fun hb292 => ?_) fun hb292 => ?_
   ·refine sm 6 rfl <| WL.yes rfl rfl rfl rfl rfl rfl (z23 (z1a u f set x.args seen wh.Next) z43 rfl rfl (sRf _ _) (po2 rfl rfl) rfl (fun _ _ => trivial) rfl rfl) <| sm 2 rfl ?_
    refine wS 301 rfl (fun hb301 => ?_) fun hb301 => ?_
    ·refine sm 2 rfl <| yV rfl rfl (oSm uT35 rfl) <| sm 3 rfl <| nL <| tRt ?_
     (have h2 : (z00 u f set x seen wh).2 = set := (by (try clear hkn hgp); simp_all [z00, andS, z0g]; done)
      rw [h2]
      refine rOk rfl ?_ (po2 rfl rfl)
      clear h2
      try (clear hkn hgp)
      simp_all [z00, andS, z0g]
      done)
    refine sm 6 rfl <| nL <| tRt ?_
    (have h2 : (z00 u f set x seen wh).2 = set := (by (try clear hkn hgp); simp_all [z00, andS, z0g]; done)
     rw [h2]
     refine rOk rfl ?_ (po2 rfl rfl)
     clear h2
     try (clear hkn hgp)
     simp_all [z00, andS, z0g]
     done)
   refine sm 15 rfl <| nL <| tRt ?_
   (have h2 : (z00 u f set x seen wh).2 = set := (by (try clear hkn hgp); simp_all [z00, andS, z0g]; done)
    rw [h2]
    refine rOk rfl ?_ (po2 rfl rfl)
    clear h2
    try (clear hkn hgp)
    simp_all [z00, andS, z0g]
    done)
  refine tQ <| tG <| sm 2 rfl <| nL ?_
  refine tC rfl (fun hc307 => ?_) fun hc307 => ?_
  ·refine tQ <| tG <| sm 3 rfl ?_
   refine wS 311 rfl (fun hb311 => ?_) fun hb311 => ?_
   ·refine sm 6 rfl <| WL.yes rfl rfl rfl rfl rfl rfl (z23 (z1a u f set x.args seen wh.Left) z43 rfl rfl (sRf _ _) (po2 rfl rfl) rfl (fun _ _ => trivial) rfl rfl) <| sm 2 rfl ?_
    refine wS 320 rfl (fun hb320 => ?_) fun hb320 => ?_
    ·refine sm 2 rfl <| yV rfl rfl (oSm uT35 rfl) <| sm 3 rfl <| nL <| tRt ?_
     (have h2 : (z00 u f set x seen wh).2 = set := (by (try clear hkn hgp); simp_all [z00, andS, z0g]; done)
      rw [h2]
      refine rOk rfl ?_ (po2 rfl rfl)
      clear h2
      try (clear hkn hgp)
      simp_all [z00, andS, z0g]
      done)
    refine sm 6 rfl <| nL <| tRt ?_
    (have h2 : (z00 u f set x seen wh).2 = set := (by (try clear hkn hgp); simp_all [z00, andS, z0g]; done)
     rw [h2]
     refine rOk rfl ?_ (po2 rfl rfl)
     clear h2
     try (clear hkn hgp)
     simp_all [z00, andS, z0g]
     done)
   refine sm 15 rfl <| nL <| tRt ?_
   (have h2 : (z00 u f set x seen wh).2 = set := (by (try clear hkn hgp); simp_all [z00, andS, z0g]; done)
    rw [h2]
    refine rOk rfl ?_ (po2 rfl rfl)
    clear h2
    try (clear hkn hgp)
    simp_all [z00, andS, z0g]
    done)
  refine tQ <| tG <| sm 2 rfl <| nL ?_
  refine tC rfl (fun hc326 => ?_) fun hc326 => ?_
  ·refine tQ <| tDr z1b (fun k => k ∈ ([3] : List Nat)) <| wR 9 [0, 1, 2, 3, 4, 5, 6, 7, 8] kR0 h30 <| smR 5 rfl <| rV rfl rfl (nCk rfl rfl rfl) <| smR 2 rfl <| rV rfl rfl (oLb uT3 rfl rfl rfl dC0) <| nR <| wO 9 kR0 <| wI rfl rfl (fun k (h : _) => by (simp at h ⊢; omega)) nw (fun _ _ => bSl rfl rfl uT35 tZ3 tS3 rfl rfl rfl rfl (fbk rfl) rfl) <| wO 10 kR0 <| wI rfl rfl (fun k (h : _) => by (simp at h ⊢; omega)) (nAp rfl) (fun _ _ => z23 (z1a u f set x.args seen [f.ty]) z43 rfl rfl (sRf _ _) (po2 rfl rfl) rfl (fun _ _ => trivial) rfl rfl) ?_
   refine wR 0 [11, 12, 13, 14, 15, 16, 17] kR0 h30 <| smR 1 rfl ?_
   refine WR.split (t := 339) rfl (fun hb339 => ?_) (fun hb339 => ?_)
   ·refine smR 2 rfl <| ryV rfl rfl rfl (oSm uT35 rfl) <| smR 3 rfl <| nR <| wDn kR0 <| tRt ?_
    (have h2 : (z00 u f set x seen wh).2 = set := (by (try clear hkn hgp); simp_all [z00, andS, z0g]; done)
     rw [h2]
     refine rOk rfl ?_ (po2 rfl rfl)
     clear h2
     try (clear hkn hgp)
     simp_all [z00, andS, z0g]
     done)
   refine smR 6 rfl <| nR <| wDn kR0 <| tRt ?_
   (have h2 : (z00 u f set x seen wh).2 = set := (by (try clear hkn hgp); simp_all [z00, andS, z0g]; done)
    rw [h2]
    refine rOk rfl ?_ (po2 rfl rfl)
    clear h2
    try (clear hkn hgp)
    simp_all [z00, andS, z0g]
    done)
  refine tSk <| tQ <| tG <| sm 1 rfl <| nL <| tRt ?_
  (have h2 : (z00 u f set x seen wh).2 = set := (by (try clear hkn hgp); simp_all [z00, andS, z0g]; done)
   rw [h2]
   refine rOk rfl ?_ (po2 rfl rfl)
   clear h2
   try (clear hkn hgp)
   simp_all [z00, andS, z0g]
   done)
theorem y6i (u : Un) (f : Fl) (hg : ∀ g ∈ u.flows, 0 <= g.params /\ g.params <= g.types.length) (x : Nd) (deep : Int) (hd : 0 <= deep /\ deep <= 100) (wh : Wh) (seen : List Int) (set : List Bool) (hs : set.length = f.types.length) (hb : seen.length + ndW x <= 1073741824) (ih : ∀ q ∈ x.kids, ∀ (deep : Int) (w : Wh) (all : List Int) (set : List Bool), 0 <= deep /\ deep <= 101 -> set.length = f.types.length -> all.length + lsW q <= 1073741824 -> SC Tryz.prog 52 [.ptr 3 0, .pv (z09 q), .pv (ints all), .pv (whv w), iInt deep] (ckHp u f 4 set) (fun k => k = 3) (iBool (z0c u f deep w all set q).1) (ckHp u f 4 (z0c u f deep w all set q).2)) : SC Tryz.prog 79 [.ptr 3 0, .pv (ndv x), .pv (ints seen), .pv (whv wh), iInt deep] (ckHp u f 4 set) (fun k => k = 3) (iBool (z0v u f deep wh seen set x).1) (ckHp u f 4 (z0v u f deep wh seen set x).2) := by
  refine SC.of Tryz.func79 rfl (lb rfl) fun F ρ w => ?_
  have hbW := zc0 x
  have hbo : x.outs.length <= 1073741824 := by omega
  have hbp : x.params.length <= 1073741824 := by omega
  refine tQ <| tG <| cE rfl (z1c rfl rfl) <| cE rfl (z1c rfl rfl) <| sm 1 rfl <| nL <| tQ <| tQ <| tG <| cV rfl (lEA rfl rfl uT42 rfl tS42 (lb rfl)) <| cE rfl (ocq (y6g _) ent100 rfl rfl) <| sm 1 rfl ?_
  refine nL ?_
  refine tC rfl (fun hc17 => ?_) fun hc17 => ?_
  ·refine tQ <| tG <| sm 1 rfl <| nL <| tRt ?_
   have hbare : z0k x = false := by simpa using hc17
   rw [z8x _ _ _ _ _ _ hbare]
   exact rOk rfl rfl (po2 rfl rfl)
  have hbare : z0k x = true := by simpa using hc17
  refine tSk <| tQ <| tQ <| tG <| sm 2 rfl <| nL <| tBk <| tQ <| tG <| sm 2 rfl <| nL ?_
  refine tC rfl (fun hc20 => ?_) fun hc20 => ?_
  ·have hk10 : x.kind = 10 := by simpa using hc20
   obtain ⟨ka, kb, hkids⟩ := z30 hbare hk10
   have hi0 : (x.kids.map eKid)[0]? = some [z09 ka] := by rw [hkids]; rfl
   have hi1 : (x.kids.map eKid)[1]? = some [z09 kb] := by rw [hkids]; rfl
   have hm0 : ka ∈ x.kids := by rw [hkids]; simp
   have hm1 : kb ∈ x.kids := by rw [hkids]; simp
   have hkW : kdW x.kids = 1 + lsW ka + (1 + lsW kb) := by rw [hkids]; simp [kdW] <;> omega
   have hb0 : seen.length + lsW ka <= 1073741824 := by omega
   have hb1 : seen.length + lsW kb <= 1073741824 := by omega
   have hs1 : (z0c u f (deep + 1) ⟨true, wh.Loop, r8of f.types x.outs, wh.Next, wh.Left⟩ seen set ka).2.length = f.types.length := (z2q ..).trans hs
   have hs2 : (z0c u f (deep + 1) ⟨true, wh.Loop, r8of f.types x.outs, wh.Next, wh.Left⟩ seen (z0c u f (deep + 1) ⟨true, wh.Loop, r8of f.types x.outs, wh.Next, wh.Left⟩ seen set ka).2 kb).2.length = f.types.length := (z2q ..).trans hs1
   refine tQ <| tDr z1b (fun k => k ∈ ([3] : List Nat)) <| wR 4 [0, 1, 2, 3, 4, 6, 7, 8, 9] kR0 h30 <| smR 9 rfl <| nR <| WA.all (rs := [5, 11]) kR0 sI0 ?_
   refine fmc ⟨?_, fmc ⟨?_, by simp⟩⟩
   ·refine wI rfl rfl (fun k (h : _) => by (simp at h ⊢; omega)) (nAp rfl) (fun _ _ => ocr (z66 u f set x.outs hbo) z8d rfl (po2 rfl rfl) rfl (fun k (h : _) => by (simp only [List.mem_cons, List.not_mem_nil, or_false] at h; rcases h with rfl <;> first | exact .inl rfl | exact .inr rfl | exact .inr dC0)) rfl rfl) <| wR 2 [10] kR0 h30 <| rV rfl rfl (bPu rfl rfl tZ90 tP90 rfl (fbk rfl) rfl) <| nR <| wO 11 kR0 <| wI rfl rfl (fun k (h : _) => by (simp at h ⊢; omega)) (z11 rfl) (fun _ _ => aLc (k := 111) rfl tZ90 rfl rfl rfl rfl) <| wO 12 kR0 <| wI rfl rfl (fun k (h : _) => by (simp at h ⊢; omega)) (nOl rfl) (fun _ _ => sBA rfl rfl rfl rfl rfl sI0 tS90 (flk rfl) (lb rfl)) <| wDn kR0 <| tQ <| tDr z1b (fun k => k ∈ ([3, 111] : List Nat)) <| wR 27 [0, 1, 2, 3] kR0 h30 ?_
    refine smR 4 rfl <| nR <| wO 4 kR0 <| wI rfl rfl (fun k (h : _) => by (simp at h ⊢; omega)) nw (fun _ _ => bSl rfl rfl uT35 tZ3 tS3 rfl rfl rfl rfl (fbk rfl) rfl) <| wO 5 kR0 <| wI rfl rfl (fun k (h : _) => by (simp at h ⊢; omega)) (nAp rfl) (fun _ _ => ocr (z1a u f set x.args seen [2]) z43 rfl (po2 rfl rfl) rfl (fun k (h : _) => .inr trivial) rfl rfl) <| wR 15 [6, 7, 8, 9, 10, 11, 12, 13, 14, 15] kR0 h30 <| smR 1 rfl ?_
    refine WR.split (t := 39) rfl (fun hb39 => ?_) (fun hb39 => ?_)
    ·refine smR 3 rfl <| ryV rfl rfl rfl (iSq rfl rfl rfl uT40 hi0 tS43 rfl (by rfl)) <| smR 2 rfl <| ryV rfl rfl rfl (lBP rfl rfl rfl Tryz.underlying90 rfl tS90 (lb rfl) rfl dC0) <| smR 1 rfl <| ryV rfl rfl rfl (oB rfl rfl (z03 rfl oM0)) <| nR <| wO 16 kR0 <| wY rfl rfl rfl (fun k (h : _) => by (simp at h ⊢; omega)) (nAp rfl) (fun _ _ => ocr (ih ka hm0 (deep + 1) ⟨true, wh.Loop, r8of f.types x.outs, wh.Next, wh.Left⟩ seen set ⟨by omega, by omega⟩ hs hb0) zu3 rfl (po2 rfl rfl) rfl (fun k (h : _) => by (simp only [List.mem_cons, List.not_mem_nil, or_false] at h; rcases h with rfl | rfl <;> first | exact .inl rfl | exact .inr rfl | exact .inr dC0)) rfl rfl) <| wR 3 [17, 18, 19, 20, 21, 22, 23, 24, 25, 26, 27] kR0 h30 <| smR 2 rfl ?_
     refine WR.split (t := 51) rfl (fun hb51 => ?_) (fun hb51 => ?_)
     ·refine smR 3 rfl <| ryV rfl rfl rfl (iSq rfl rfl rfl uT40 hi1 tS43 rfl (by rfl)) <| smR 2 rfl <| ryV rfl rfl rfl (lBP rfl rfl rfl Tryz.underlying90 rfl tS90 (lb rfl) rfl dC0) <| smR 1 rfl <| ryV rfl rfl rfl (oB rfl rfl (z03 rfl oM0)) <| nR <| wO 28 kR0 <| wY rfl rfl rfl (fun k (h : _) => by (simp at h ⊢; omega)) (nAp rfl) (fun _ _ => ocr (ih kb hm1 (deep + 1) ⟨true, wh.Loop, r8of f.types x.outs, wh.Next, wh.Left⟩ seen (z0c u f (deep + 1) ⟨true, wh.Loop, r8of f.types x.outs, wh.Next, wh.Left⟩ seen set ka).2 ⟨by omega, by omega⟩ hs1 hb1) zu3 rfl (po2 rfl rfl) rfl (fun k (h : _) => by (simp only [List.mem_cons, List.not_mem_nil, or_false] at h; rcases h with rfl | rfl <;> first | exact .inl rfl | exact .inr rfl | exact .inr dC0)) rfl rfl) <| wR 0 [29, 30] kR0 h30 <| smR 2 rfl <| nR ?_
      refine wDn kR0 <| tQ <| tDr z1b (fun k => k ∈ ([3] : List Nat)) <| wR 15 [0, 1, 2, 3, 4, 5, 6, 7] kR0 h30 <| smR 2 rfl ?_
      refine WR.split (t := 64) rfl (fun hb64 => ?_) (fun hb64 => ?_)
      ·refine smR 2 rfl <| ryV rfl rfl rfl (oSm uT35 rfl) <| smR 2 rfl ?_
       refine WR.split (t := 69) rfl (fun hb69 => ?_) (fun hb69 => ?_)
       ·refine smR 1 rfl <| nR <| wN 8 kR0 h30 rfl rfl rfl <| wR 4 [9, 10, 11, 12, 13, 14, 15, 16, 17, 18] kR0 h30 <| smR 9 rfl <| ryV rfl rfl rfl (oSm uT35 rfl) <| nR <| wO 19 kR0 <| wY rfl rfl rfl (fun k (h : _) => by (simp at h ⊢; omega)) (z11 rfl) (fun _ _ => z0u (k := 182) (s := ⟨3, 1⟩) rfl rfl rfl uT35 tZ3 tC3 rfl dC0 oM0 oM0 rfl rfl rfl rfl) <| wO 20 kR0 <| wY rfl rfl rfl (fun k (h : _) => by (simp at h ⊢; omega)) (nAp rfl) (fun _ _ => z2o (fun k => k = 182) (z1d u f (z0c u f (deep + 1) ⟨true, wh.Loop, r8of f.types x.outs, wh.Next, wh.Left⟩ seen (z0c u f (deep + 1) ⟨true, wh.Loop, r8of f.types x.outs, wh.Next, wh.Left⟩ seen set ka).2 kb).2 x.outs (List.replicate x.outs.length 0) hs2) z3a rfl rfl (sRf _ _) (And.intro LendOf.same (And.intro LendOf.same (And.intro (LendOf.row rfl rfl (by (simp; done)) (by (simp only [List.map_replicate]; rfl))) (trivial)))) (fun k h => by subst h; rfl) (po2 rfl rfl) rfl (fun k (h : _) => by (simp only [List.mem_cons, List.not_mem_nil, or_false] at h; rcases h with rfl <;> first | exact .inl rfl | exact .inr rfl | exact .inr dC0)) ⟨_, rfl⟩ (z2t (z0t ..))) <| wR 0 [21, 22] kR0 h30 ?_
        refine smR 2 rfl <| nR <| wDn kR0 <| tRt ?_
        (have h2 : (z0v u f deep wh seen set x).2 = (z0e f.types (z0c u f (deep + 1) ⟨true, wh.Loop, r8of f.types x.outs, wh.Next, wh.Left⟩ seen (z0c u f (deep + 1) ⟨true, wh.Loop, r8of f.types x.outs, wh.Next, wh.Left⟩ seen set ka).2 kb).2 x.outs (List.replicate x.outs.length 0)).2 := (by rw [z0x _ _ _ _ _ _ hbare hk10 hkids]; simp_all [andT, andS, z12]; done)
         rw [h2]
         refine rOk rfl ?_ (po2 rfl rfl)
         clear h2
         rw [z0x _ _ _ _ _ _ hbare hk10 hkids]
         simp_all [andT, andS, z12]
         done)
       refine ryV rfl rfl rfl (lEA rfl rfl uT42 rfl tS42 (lb rfl)) <| nR <| wO 8 kR0 <| wY rfl rfl rfl (fun k (h : _) => by (simp at h ⊢; omega)) nw (fun _ _ => ocq (z48 _) y2u rfl rfl) <| wR 4 [9, 10, 11, 12, 13, 14, 15, 16, 17, 18] kR0 h30 <| smR 4 rfl ?_
       refine WR.split (t := 75) rfl (fun hb75 => ?_) (fun hb75 => ?_)
       ·refine smR 5 rfl <| ryV rfl rfl rfl (oSm uT35 rfl) <| nR <| wO 19 kR0 <| wY rfl rfl rfl (fun k (h : _) => by (simp at h ⊢; omega)) (z11 rfl) (fun _ _ => z0u (k := 182) (s := ⟨3, 1⟩) rfl rfl rfl uT35 tZ3 tC3 rfl dC0 oM0 oM0 rfl rfl rfl rfl) <| wO 20 kR0 <| wY rfl rfl rfl (fun k (h : _) => by (simp at h ⊢; omega)) (nAp rfl) (fun _ _ => z2o (fun k => k = 182) (z1d u f (z0c u f (deep + 1) ⟨true, wh.Loop, r8of f.types x.outs, wh.Next, wh.Left⟩ seen (z0c u f (deep + 1) ⟨true, wh.Loop, r8of f.types x.outs, wh.Next, wh.Left⟩ seen set ka).2 kb).2 x.outs (List.replicate x.outs.length 0) hs2) z3a rfl rfl (sRf _ _) (And.intro LendOf.same (And.intro LendOf.same (And.intro (LendOf.row rfl rfl (by (simp; done)) (by (simp only [List.map_replicate]; rfl))) (trivial)))) (fun k h => by subst h; rfl) (po2 rfl rfl) rfl (fun k (h : _) => by (simp only [List.mem_cons, List.not_mem_nil, or_false] at h; rcases h with rfl <;> first | exact .inl rfl | exact .inr rfl | exact .inr dC0)) ⟨_, rfl⟩ (z2t (z0t ..))) <| wR 0 [21, 22] kR0 h30 <| smR 2 rfl <| nR <| wDn kR0 <| tRt ?_
        (have h2 : (z0v u f deep wh seen set x).2 = (z0e f.types (z0c u f (deep + 1) ⟨true, wh.Loop, r8of f.types x.outs, wh.Next, wh.Left⟩ seen (z0c u f (deep + 1) ⟨true, wh.Loop, r8of f.types x.outs, wh.Next, wh.Left⟩ seen set ka).2 kb).2 x.outs (List.replicate x.outs.length 0)).2 := (by rw [z0x _ _ _ _ _ _ hbare hk10 hkids]; simp_all [andT, andS, z12]; done)
         rw [h2]
         refine rOk rfl ?_ (po2 rfl rfl)
         clear h2
         rw [z0x _ _ _ _ _ _ hbare hk10 hkids]
         simp_all [andT, andS, z12]
         done)
       refine smR 6 rfl <| nR <| wN 19 kR0 h30 rfl rfl rfl <| wN 20 kR0 h30 rfl rfl rfl <| wR 0 [21, 22] kR0 h30 <| smR 2 rfl <| nR <| wDn kR0 <| tRt ?_
       (have h2 : (z0v u f deep wh seen set x).2 = (z0c u f (deep + 1) ⟨true, wh.Loop, r8of f.types x.outs, wh.Next, wh.Left⟩ seen (z0c u f (deep + 1) ⟨true, wh.Loop, r8of f.types x.outs, wh.Next, wh.Left⟩ seen set ka).2 kb).2 := (by rw [z0x _ _ _ _ _ _ hbare hk10 hkids]; simp_all [andT, andS, z12]; done)
        rw [h2]
        refine rOk rfl ?_ (po2 rfl rfl)
        clear h2
        rw [z0x _ _ _ _ _ _ hbare hk10 hkids]
        simp_all [andT, andS, z12]
        done)
      refine smR 5 rfl <| nUr rfl rfl rfl rfl rfl rfl rfl <| nR <| WA.takeNoU (i := 8) rfl kR0 kR0 kR0 h30 rfl rfl rfl rfl rfl rfl <| wR 4 [9, 10, 11, 12, 13, 14, 15, 16, 17, 18] kR0 h30 <| nUr rfl rfl rfl rfl rfl rfl rfl <| smR 9 rfl <| nR <| wN 19 kR0 h30 rfl rfl rfl <| wN 20 kR0 h30 rfl rfl rfl <| wR 0 [21, 22] kR0 h30 <| smR 2 rfl ?_
      refine nR <| wDn kR0 <| tRt ?_
      (have h2 : (z0v u f deep wh seen set x).2 = (z0c u f (deep + 1) ⟨true, wh.Loop, r8of f.types x.outs, wh.Next, wh.Left⟩ seen (z0c u f (deep + 1) ⟨true, wh.Loop, r8of f.types x.outs, wh.Next, wh.Left⟩ seen set ka).2 kb).2 := (by rw [z0x _ _ _ _ _ _ hbare hk10 hkids]; simp_all [andT, andS, z12]; done)
       rw [h2]
       refine rOk rfl ?_ (po2 rfl rfl)
       clear h2
       rw [z0x _ _ _ _ _ _ hbare hk10 hkids]
       simp_all [andT, andS, z12]
       done)
     refine smR 9 rfl <| nR <| wN 28 kR0 h30 rfl rfl rfl <| wR 0 [29, 30] kR0 h30 <| smR 2 rfl <| nR <| wDn kR0 <| tQ <| tDr z1b (fun k => k ∈ ([3] : List Nat)) <| wR 15 [0, 1, 2, 3, 4, 5, 6, 7] kR0 h30 <| smR 7 rfl <| nUr rfl rfl rfl rfl rfl rfl rfl ?_
     refine nR <| WA.takeNoU (i := 8) rfl kR0 kR0 kR0 h30 rfl rfl rfl rfl rfl rfl <| wR 4 [9, 10, 11, 12, 13, 14, 15, 16, 17, 18] kR0 h30 <| nUr rfl rfl rfl rfl rfl rfl rfl <| smR 9 rfl <| nR <| wN 19 kR0 h30 rfl rfl rfl <| wN 20 kR0 h30 rfl rfl rfl <| wR 0 [21, 22] kR0 h30 <| smR 2 rfl <| nR <| wDn kR0 ?_
     refine tRt ?_
     (have h2 : (z0v u f deep wh seen set x).2 = (z0c u f (deep + 1) ⟨true, wh.Loop, r8of f.types x.outs, wh.Next, wh.Left⟩ seen set ka).2 := (by rw [z0x _ _ _ _ _ _ hbare hk10 hkids]; simp_all [andT, andS, z12]; done)
      rw [h2]
      refine rOk rfl ?_ (po2 rfl rfl)
      clear h2
      rw [z0x _ _ _ _ _ _ hbare hk10 hkids]
      simp_all [andT, andS, z12]
      done)
    refine smR 9 rfl <| nR <| wN 16 kR0 h30 rfl rfl rfl <| wR 3 [17, 18, 19, 20, 21, 22, 23, 24, 25, 26, 27] kR0 h30 <| smR 11 rfl <| nR <| wN 28 kR0 h30 rfl rfl rfl <| wR 0 [29, 30] kR0 h30 <| smR 2 rfl <| nR <| wDn kR0 <| tQ ?_
    refine tDr z1b (fun k => k ∈ ([3] : List Nat)) <| wR 15 [0, 1, 2, 3, 4, 5, 6, 7] kR0 h30 <| smR 7 rfl <| nUr rfl rfl rfl rfl rfl rfl rfl <| nR <| WA.takeNoU (i := 8) rfl kR0 kR0 kR0 h30 rfl rfl rfl rfl rfl rfl <| wR 4 [9, 10, 11, 12, 13, 14, 15, 16, 17, 18] kR0 h30 <| nUr rfl rfl rfl rfl rfl rfl rfl <| smR 9 rfl <| nR <| wN 19 kR0 h30 rfl rfl rfl <| wN 20 kR0 h30 rfl rfl rfl ?_
    refine wR 0 [21, 22] kR0 h30 <| smR 2 rfl <| nR <| wDn kR0 <| tRt ?_
    (have h2 : (z0v u f deep wh seen set x).2 = set := (by rw [z0x _ _ _ _ _ _ hbare hk10 hkids]; simp_all [andT, andS, z12]; done)
     rw [h2]
     refine rOk rfl ?_ (po2 rfl rfl)
     clear h2
     rw [z0x _ _ _ _ _ _ hbare hk10 hkids]
     simp_all [andT, andS, z12]
     done)
   refine wI rfl rfl (fun k (h : _) => by (simp at h ⊢; omega)) (z11 rfl) (fun _ _ => aLc (k := 111) rfl tZ90 rfl rfl rfl rfl) <| wO 5 kR0 <| wI rfl rfl (fun k (h : _) => by (simp at h ⊢; omega)) (nAp rfl) (fun _ _ => ocr (z66 u f set x.outs hbo) z8d rfl (po2 rfl rfl) rfl (fun k (h : _) => by (simp only [List.mem_cons, List.not_mem_nil, or_false] at h; rcases h with rfl <;> first | exact .inl rfl | exact .inr rfl | exact .inr dC0)) rfl rfl) <| wR 1 [10] kR0 h30 <| rV rfl rfl (bPu rfl rfl tZ90 tP90 rfl (fbk rfl) rfl) <| nR <| wO 12 kR0 <| wI rfl rfl (fun k (h : _) => by (simp at h ⊢; omega)) (nOl rfl) (fun _ _ => sBA rfl rfl rfl rfl rfl sI0 tS90 (flk rfl) (lb rfl)) <| wDn kR0 <| tQ <| tDr z1b (fun k => k ∈ ([3, 111] : List Nat)) <| wR 27 [0, 1, 2, 3] kR0 h30 ?_
   refine smR 4 rfl <| nR <| wO 4 kR0 <| wI rfl rfl (fun k (h : _) => by (simp at h ⊢; omega)) nw (fun _ _ => bSl rfl rfl uT35 tZ3 tS3 rfl rfl rfl rfl (fbk rfl) rfl) <| wO 5 kR0 <| wI rfl rfl (fun k (h : _) => by (simp at h ⊢; omega)) (nAp rfl) (fun _ _ => ocr (z1a u f set x.args seen [2]) z43 rfl (po2 rfl rfl) rfl (fun k (h : _) => .inr trivial) rfl rfl) <| wR 15 [6, 7, 8, 9, 10, 11, 12, 13, 14, 15] kR0 h30 <| smR 1 rfl ?_
   refine WR.split (t := 39) rfl (fun hb39 => ?_) (fun hb39 => ?_)
   ·refine smR 3 rfl <| ryV rfl rfl rfl (iSq rfl rfl rfl uT40 hi0 tS43 rfl (by rfl)) <| smR 2 rfl <| ryV rfl rfl rfl (lBP rfl rfl rfl Tryz.underlying90 rfl tS90 (lb rfl) rfl dC0) <| smR 1 rfl <| ryV rfl rfl rfl (oB rfl rfl (z03 rfl oM0)) <| nR <| wO 16 kR0 <| wY rfl rfl rfl (fun k (h : _) => by (simp at h ⊢; omega)) (nAp rfl) (fun _ _ => ocr (ih ka hm0 (deep + 1) ⟨true, wh.Loop, r8of f.types x.outs, wh.Next, wh.Left⟩ seen set ⟨by omega, by omega⟩ hs hb0) zu3 rfl (po2 rfl rfl) rfl (fun k (h : _) => by (simp only [List.mem_cons, List.not_mem_nil, or_false] at h; rcases h with rfl | rfl <;> first | exact .inl rfl | exact .inr rfl | exact .inr dC0)) rfl rfl) <| wR 3 [17, 18, 19, 20, 21, 22, 23, 24, 25, 26, 27] kR0 h30 <| smR 2 rfl ?_
    refine WR.split (t := 51) rfl (fun hb51 => ?_) (fun hb51 => ?_)
    ·refine smR 3 rfl <| ryV rfl rfl rfl (iSq rfl rfl rfl uT40 hi1 tS43 rfl (by rfl)) <| smR 2 rfl <| ryV rfl rfl rfl (lBP rfl rfl rfl Tryz.underlying90 rfl tS90 (lb rfl) rfl dC0) <| smR 1 rfl <| ryV rfl rfl rfl (oB rfl rfl (z03 rfl oM0)) <| nR <| wO 28 kR0 <| wY rfl rfl rfl (fun k (h : _) => by (simp at h ⊢; omega)) (nAp rfl) (fun _ _ => ocr (ih kb hm1 (deep + 1) ⟨true, wh.Loop, r8of f.types x.outs, wh.Next, wh.Left⟩ seen (z0c u f (deep + 1) ⟨true, wh.Loop, r8of f.types x.outs, wh.Next, wh.Left⟩ seen set ka).2 ⟨by omega, by omega⟩ hs1 hb1) zu3 rfl (po2 rfl rfl) rfl (fun k (h : _) => by (simp only [List.mem_cons, List.not_mem_nil, or_false] at h; rcases h with rfl | rfl <;> first | exact .inl rfl | exact .inr rfl | exact .inr dC0)) rfl rfl) <| wR 0 [29, 30] kR0 h30 <| smR 2 rfl <| nR ?_
     refine wDn kR0 <| tQ <| tDr z1b (fun k => k ∈ ([3] : List Nat)) <| wR 15 [0, 1, 2, 3, 4, 5, 6, 7] kR0 h30 <| smR 2 rfl ?_
     refine WR.split (t := 64) rfl (fun hb64 => ?_) (fun hb64 => ?_)
     ·refine smR 2 rfl <| ryV rfl rfl rfl (oSm uT35 rfl) <| smR 2 rfl ?_
      refine WR.split (t := 69) rfl (fun hb69 => ?_) (fun hb69 => ?_)
      ·refine smR 1 rfl <| nR <| wN 8 kR0 h30 rfl rfl rfl <| wR 4 [9, 10, 11, 12, 13, 14, 15, 16, 17, 18] kR0 h30 <| smR 9 rfl <| ryV rfl rfl rfl (oSm uT35 rfl) <| nR <| wO 19 kR0 <| wY rfl rfl rfl (fun k (h : _) => by (simp at h ⊢; omega)) (z11 rfl) (fun _ _ => z0u (k := 182) (s := ⟨3, 1⟩) rfl rfl rfl uT35 tZ3 tC3 rfl dC0 oM0 oM0 rfl rfl rfl rfl) <| wO 20 kR0 <| wY rfl rfl rfl (fun k (h : _) => by (simp at h ⊢; omega)) (nAp rfl) (fun _ _ => z2o (fun k => k = 182) (z1d u f (z0c u f (deep + 1) ⟨true, wh.Loop, r8of f.types x.outs, wh.Next, wh.Left⟩ seen (z0c u f (deep + 1) ⟨true, wh.Loop, r8of f.types x.outs, wh.Next, wh.Left⟩ seen set ka).2 kb).2 x.outs (List.replicate x.outs.length 0) hs2) z3a rfl rfl (sRf _ _) (And.intro LendOf.same (And.intro LendOf.same (And.intro (LendOf.row rfl rfl (by (simp; done)) (by (simp only [List.map_replicate]; rfl))) (trivial)))) (fun k h => by subst h; rfl) (po2 rfl rfl) rfl (fun k (h : _) => by (simp only [List.mem_cons, List.not_mem_nil, or_false] at h; rcases h with rfl <;> first | exact .inl rfl | exact .inr rfl | exact .inr dC0)) ⟨_, rfl⟩ (z2t (z0t ..))) <| wR 0 [21, 22] kR0 h30 ?_
       refine smR 2 rfl <| nR <| wDn kR0 <| tRt ?_
       (have h2 : (z0v u f deep wh seen set x).2 = (z0e f.types (z0c u f (deep + 1) ⟨true, wh.Loop, r8of f.types x.outs, wh.Next, wh.Left⟩ seen (z0c u f (deep + 1) ⟨true, wh.Loop, r8of f.types x.outs, wh.Next, wh.Left⟩ seen set ka).2 kb).2 x.outs (List.replicate x.outs.length 0)).2 := (by rw [z0x _ _ _ _ _ _ hbare hk10 hkids]; simp_all [andT, andS, z12]; done)
        rw [h2]
        refine rOk rfl ?_ (po2 rfl rfl)
        clear h2
        rw [z0x _ _ _ _ _ _ hbare hk10 hkids]
        simp_all [andT, andS, z12]
        done)
      refine ryV rfl rfl rfl (lEA rfl rfl uT42 rfl tS42 (lb rfl)) <| nR <| wO 8 kR0 <| wY rfl rfl rfl (fun k (h : _) => by (simp at h ⊢; omega)) nw (fun _ _ => ocq (z48 _) y2u rfl rfl) <| wR 4 [9, 10, 11, 12, 13, 14, 15, 16, 17, 18] kR0 h30 <| smR 4 rfl ?_
      refine WR.split (t := 75) rfl (fun hb75 => ?_) (fun hb75 => ?_)
      ·refine smR 5 rfl <| ryV rfl rfl rfl (oSm uT35 rfl) <| nR <| wO 19 kR0 <| wY rfl rfl rfl (fun k (h : _) => by (simp at h ⊢; omega)) (z11 rfl) (fun _ _ => z0u (k := 182) (s := ⟨3, 1⟩) rfl rfl rfl uT35 tZ3 tC3 rfl dC0 oM0 oM0 rfl rfl rfl rfl) <| wO 20 kR0 <| wY rfl rfl rfl (fun k (h : _) => by (simp at h ⊢; omega)) (nAp rfl) (fun _ _ => z2o (fun k => k = 182) (z1d u f (z0c u f (deep + 1) ⟨true, wh.Loop, r8of f.types x.outs, wh.Next, wh.Left⟩ seen (z0c u f (deep + 1) ⟨true, wh.Loop, r8of f.types x.outs, wh.Next, wh.Left⟩ seen set ka).2 kb).2 x.outs (List.replicate x.outs.length 0) hs2) z3a rfl rfl (sRf _ _) (And.intro LendOf.same (And.intro LendOf.same (And.intro (LendOf.row rfl rfl (by (simp; done)) (by (simp only [List.map_replicate]; rfl))) (trivial)))) (fun k h => by subst h; rfl) (po2 rfl rfl) rfl (fun k (h : _) => by (simp only [List.mem_cons, List.not_mem_nil, or_false] at h; rcases h with rfl <;> first | exact .inl rfl | exact .inr rfl | exact .inr dC0)) ⟨_, rfl⟩ (z2t (z0t ..))) <| wR 0 [21, 22] kR0 h30 <| smR 2 rfl <| nR <| wDn kR0 <| tRt ?_
       (have h2 : (z0v u f deep wh seen set x).2 = (z0e f.types (z0c u f (deep + 1) ⟨true, wh.Loop, r8of f.types x.outs, wh.Next, wh.Left⟩ seen (z0c u f (deep + 1) ⟨true, wh.Loop, r8of f.types x.outs, wh.Next, wh.Left⟩ seen set ka).2 kb).2 x.outs (List.replicate x.outs.length 0)).2 := (by rw [z0x _ _ _ _ _ _ hbare hk10 hkids]; simp_all [andT, andS, z12]; done)
        rw [h2]
        refine rOk rfl ?_ (po2 rfl rfl)
        clear h2
        rw [z0x _ _ _ _ _ _ hbare hk10 hkids]
        simp_all [andT, andS, z12]
        done)
      refine smR 6 rfl <| nR <| wN 19 kR0 h30 rfl rfl rfl <| wN 20 kR0 h30 rfl rfl rfl <| wR 0 [21, 22] kR0 h30 <| smR 2 rfl <| nR <| wDn kR0 <| tRt ?_
      (have h2 : (z0v u f deep wh seen set x).2 = (z0c u f (deep + 1) ⟨true, wh.Loop, r8of f.types x.outs, wh.Next, wh.Left⟩ seen (z0c u f (deep + 1) ⟨true, wh.Loop, r8of f.types x.outs, wh.Next, wh.Left⟩ seen set ka).2 kb).2 := (by rw [z0x _ _ _ _ _ _ hbare hk10 hkids]; simp_all [andT, andS, z12]; done)
       rw [h2]
       refine rOk rfl ?_ (po2 rfl rfl)
       clear h2
       rw [z0x _ _ _ _ _ _ hbare hk10 hkids]
       simp_all [andT, andS, z12]
       done)
     refine smR 5 rfl <| nUr rfl rfl rfl rfl rfl rfl rfl <| nR <| WA.takeNoU (i := 8) rfl kR0 kR0 kR0 h30 rfl rfl rfl rfl rfl rfl <| wR 4 [9, 10, 11, 12, 13, 14, 15, 16, 17, 18] kR0 h30 <| nUr rfl rfl rfl rfl rfl rfl rfl <| smR 9 rfl <| nR <| wN 19 kR0 h30 rfl rfl rfl <| wN 20 kR0 h30 rfl rfl rfl <| wR 0 [21, 22] kR0 h30 <| smR 2 rfl ?_
     refine nR <| wDn kR0 <| tRt ?_
     (have h2 : (z0v u f deep wh seen set x).2 = (z0c u f (deep + 1) ⟨true, wh.Loop, r8of f.types x.outs, wh.Next, wh.Left⟩ seen (z0c u f (deep + 1) ⟨true, wh.Loop, r8of f.types x.outs, wh.Next, wh.Left⟩ seen set ka).2 kb).2 := (by rw [z0x _ _ _ _ _ _ hbare hk10 hkids]; simp_all [andT, andS, z12]; done)
      rw [h2]
      refine rOk rfl ?_ (po2 rfl rfl)
      clear h2
      rw [z0x _ _ _ _ _ _ hbare hk10 hkids]
      simp_all [andT, andS, z12]
      done)
    refine smR 9 rfl <| nR <| wN 28 kR0 h30 rfl rfl rfl <| wR 0 [29, 30] kR0 h30 <| smR 2 rfl <| nR <| wDn kR0 <| tQ <| tDr z1b (fun k => k ∈ ([3] : List Nat)) <| wR 15 [0, 1, 2, 3, 4, 5, 6, 7] kR0 h30 <| smR 7 rfl <| nUr rfl rfl rfl rfl rfl rfl rfl ?_
    refine nR <| WA.takeNoU (i := 8) rfl kR0 kR0 kR0 h30 rfl rfl rfl rfl rfl rfl <| wR 4 [9, 10, 11, 12, 13, 14, 15, 16, 17, 18] kR0 h30 <| nUr rfl rfl rfl rfl rfl rfl rfl <| smR 9 rfl <| nR <| wN 19 kR0 h30 rfl rfl rfl <| wN 20 kR0 h30 rfl rfl rfl <| wR 0 [21, 22] kR0 h30 <| smR 2 rfl <| nR <| wDn kR0 ?_
    refine tRt ?_
    (have h2 : (z0v u f deep wh seen set x).2 = (z0c u f (deep + 1) ⟨true, wh.Loop, r8of f.types x.outs, wh.Next, wh.Left⟩ seen set ka).2 := (by rw [z0x _ _ _ _ _ _ hbare hk10 hkids]; simp_all [andT, andS, z12]; done)
     rw [h2]
     refine rOk rfl ?_ (po2 rfl rfl)
     clear h2
     rw [z0x _ _ _ _ _ _ hbare hk10 hkids]
     simp_all [andT, andS, z12]
     done)
   refine smR 9 rfl <| nR <| wN 16 kR0 h30 rfl rfl rfl <| wR 3 [17, 18, 19, 20, 21, 22, 23, 24, 25, 26, 27] kR0 h30 <| smR 11 rfl <| nR <| wN 28 kR0 h30 rfl rfl rfl <| wR 0 [29, 30] kR0 h30 <| smR 2 rfl <| nR <| wDn kR0 <| tQ ?_
   refine tDr z1b (fun k => k ∈ ([3] : List Nat)) <| wR 15 [0, 1, 2, 3, 4, 5, 6, 7] kR0 h30 <| smR 7 rfl <| nUr rfl rfl rfl rfl rfl rfl rfl <| nR <| WA.takeNoU (i := 8) rfl kR0 kR0 kR0 h30 rfl rfl rfl rfl rfl rfl <| wR 4 [9, 10, 11, 12, 13, 14, 15, 16, 17, 18] kR0 h30 <| nUr rfl rfl rfl rfl rfl rfl rfl <| smR 9 rfl <| nR <| wN 19 kR0 h30 rfl rfl rfl <| wN 20 kR0 h30 rfl rfl rfl ?_
   refine wR 0 [21, 22] kR0 h30 <| smR 2 rfl <| nR <| wDn kR0 <| tRt ?_
   (have h2 : (z0v u f deep wh seen set x).2 = set := (by rw [z0x _ _ _ _ _ _ hbare hk10 hkids]; simp_all [andT, andS, z12]; done)
    rw [h2]
    refine rOk rfl ?_ (po2 rfl rfl)
    clear h2
    rw [z0x _ _ _ _ _ _ hbare hk10 hkids]
    simp_all [andT, andS, z12]
    done)
  refine tQ <| tG <| sm 2 rfl <| nL ?_
  refine tC rfl (fun hc85 => ?_) fun hc85 => ?_
  ·have hk11 : x.kind = 11 := by simpa using hc85
   obtain ⟨ka, hkids⟩ := z21 hbare hk11
   have hi0 : (x.kids.map eKid)[0]? = some [z09 ka] := by rw [hkids]; rfl
   have hm0 : ka ∈ x.kids := by rw [hkids]; simp
   have hkW : kdW x.kids = 1 + lsW ka := by rw [hkids]; simp [kdW]
   have hb0 : (seen ++ x.params).length + lsW ka <= 1073741824 := by simp; omega
   have hs1 : (z0e f.types set x.params (List.replicate x.params.length 0)).2.length = f.types.length := (z0t ..).trans hs
   have hs2 : (z0c u f (deep + 1) ⟨false, true, [], r8of f.types x.params, r8of f.types x.outs⟩ (seen ++ x.params) (z0e f.types set x.params (List.replicate x.params.length 0)).2 ka).2.length = f.types.length := (z2q ..).trans hs1
   refine tQ <| tDr z1b (fun k => k ∈ ([3] : List Nat)) <| wR 5 [0, 1, 2, 4, 5, 6] kR0 h30 <| smR 6 rfl <| nR <| WA.all (rs := [3, 9]) kR0 sI0 ?_
   refine fmc ⟨?_, fmc ⟨?_, by simp⟩⟩
   ·refine wI rfl rfl (fun k (h : _) => by (simp at h ⊢; omega)) (nAp rfl) (fun _ _ => ocr (z66 u f set x.params hbp) z8d rfl (po2 rfl rfl) rfl (fun k (h : _) => by (simp only [List.mem_cons, List.not_mem_nil, or_false] at h; rcases h with rfl <;> first | exact .inl rfl | exact .inr rfl | exact .inr dC0)) rfl rfl) <| WA.all (rs := [7, 9]) kR0 sI0 ?_
    refine fmc ⟨?_, fmc ⟨?_, by simp⟩⟩
    ·refine wI rfl rfl (fun k (h : _) => by (simp at h ⊢; omega)) (nAp rfl) (fun _ _ => ocr (z66 u f set x.outs hbo) z8d rfl (po2 rfl rfl) rfl (fun k (h : _) => by (simp only [List.mem_cons, List.not_mem_nil, or_false] at h; rcases h with rfl <;> first | exact .inl rfl | exact .inr rfl | exact .inr dC0)) rfl rfl) <| wR 2 [8] kR0 h30 <| rV rfl rfl (bPu rfl rfl tZ90 tP90 rfl (fbk rfl) rfl) <| nR <| wO 9 kR0 <| wI rfl rfl (fun k (h : _) => by (simp at h ⊢; omega)) (z11 rfl) (fun _ _ => aLc (k := 113) rfl tZ90 rfl rfl rfl rfl) <| wO 10 kR0 <| wI rfl rfl (fun k (h : _) => by (simp at h ⊢; omega)) (nOl rfl) (fun _ _ => sBA rfl rfl rfl rfl rfl sI0 tS90 (flk rfl) (lb rfl)) <| wDn kR0 <| tQ <| tQ <| tDr z1b (fun k => k ∈ ([3] : List Nat)) ?_
     refine wR 14 [0, 1, 2, 3, 4, 5, 6] kR0 h30 <| smR 7 rfl <| nR <| wO 7 kR0 <| wI rfl rfl (fun k (h : _) => by (simp at h ⊢; omega)) (nAp rfl) (fun _ _ => ocr (z66 u f set x.params hbp) z8d rfl (po2 rfl rfl) rfl (fun k (h : _) => by (simp only [List.mem_cons, List.not_mem_nil, or_false] at h; rcases h with rfl <;> first | exact .inl rfl | exact .inr rfl | exact .inr dC0)) rfl rfl) <| wO 8 kR0 <| wI rfl rfl (fun k (h : _) => by (simp at h ⊢; omega)) (nAp rfl) (fun _ _ => ocr (z1a u f set x.args seen (r8of f.types x.params)) z43 rfl (po2 rfl rfl) rfl (fun k (h : _) => .inr trivial) rfl rfl) <| wR 4 [9, 10, 11, 12, 13, 14, 15, 16] kR0 h30 <| smR 2 rfl ?_
     refine WR.split (t := 106) rfl (fun hb106 => ?_) (fun hb106 => ?_)
     ·refine smR 6 rfl <| nR <| wN 17 kR0 h30 rfl rfl rfl <| wN 18 kR0 h30 rfl rfl rfl <| wR 0 [19, 20] kR0 h30 <| smR 2 rfl <| nR <| wDn kR0 <| Tr.condT rfl <| tQ <| tG <| sm 1 rfl ?_
      refine nL <| tRt ?_
      (have h2 : (z0v u f deep wh seen set x).2 = set := (by rw [z08 _ _ _ _ _ _ hbare hk11 hkids]; simp_all [andT, andS, z12]; done)
       rw [h2]
       refine rOk rfl ?_ (po2 rfl rfl)
       clear h2
       rw [z08 _ _ _ _ _ _ hbare hk11 hkids]
       simp_all [andT, andS, z12]
       done)
     refine smR 5 rfl <| ryV rfl rfl rfl (oSm uT35 rfl) <| nR <| wO 17 kR0 <| wY rfl rfl rfl (fun k (h : _) => by (simp at h ⊢; omega)) (z11 rfl) (fun _ _ => z0u (k := 213) (s := ⟨3, 1⟩) rfl rfl rfl uT35 tZ3 tC3 rfl dC0 oM0 oM0 rfl rfl rfl rfl) <| wO 18 kR0 <| wY rfl rfl rfl (fun k (h : _) => by (simp at h ⊢; omega)) (nAp rfl) (fun _ _ => z2o (fun k => k = 213) (z1d u f set x.params (List.replicate x.params.length 0) hs) z3a rfl rfl (sRf _ _) (And.intro LendOf.same (And.intro LendOf.same (And.intro (LendOf.row rfl rfl (by (simp; done)) (by (simp only [List.map_replicate]; rfl))) (trivial)))) (fun k h => by subst h; rfl) (po2 rfl rfl) rfl (fun k (h : _) => by (simp only [List.mem_cons, List.not_mem_nil, or_false] at h; rcases h with rfl <;> first | exact .inl rfl | exact .inr rfl | exact .inr dC0)) ⟨_, rfl⟩ (z2t (z0t ..))) <| wR 0 [19, 20] kR0 h30 <| smR 2 rfl <| nR <| wDn kR0 ?_
     refine tC rfl (fun hc116 => ?_) fun hc116 => ?_
     ·refine tQ <| tG <| sm 1 rfl <| nL <| tRt ?_
      (have h2 : (z0v u f deep wh seen set x).2 = (z0e f.types set x.params (List.replicate x.params.length 0)).2 := (by rw [z08 _ _ _ _ _ _ hbare hk11 hkids]; simp_all [andT, andS, z12]; done)
       rw [h2]
       refine rOk rfl ?_ (po2 rfl rfl)
       clear h2
       rw [z08 _ _ _ _ _ _ hbare hk11 hkids]
       simp_all [andT, andS, z12]
       done)
     refine tSk <| tQ <| tG <| sm 1 rfl <| nL <| tQ <| Tr.grow (t := 14) (k := 114) ⟨3, 1⟩ rfl rfl rfl rfl rfl <| tG <| sm 2 rfl ?_
     refine cE rfl (aPp rfl rfl rfl rfl (by rfl) sI0 uT35 tB3 dC0 (z98) (z5x) (by simp [maxLen, z0o]; omega) (by simp [z0o]; omega)) ?_
     refine sm 1 rfl <| nL <| tQ <| tG <| sm 3 rfl ?_
     refine cE rfl (aPp rfl rfl rfl rfl (by (simp; done)) sI0 uT35 tB3 dC0 (z98) (z5x) (by simp [maxLen, z0o]; omega) (by simp [z0o]; omega)) ?_
     refine sm 1 rfl <| nL <| tQ <| tDr z1b (fun k => k ∈ ([3, 113] : List Nat)) <| wR 23 [0, 1, 2, 3, 4, 5, 6, 7, 8] kR0 h30 <| smR 3 rfl <| rV rfl rfl (iSq rfl rfl rfl uT40 hi0 tS43 rfl (by rfl)) <| smR 2 rfl <| rV rfl rfl (lBP rfl rfl rfl Tryz.underlying90 rfl tS90 (lb rfl) rfl dC0) <| smR 1 rfl <| rV rfl rfl (oB rfl rfl (z03 rfl oM0)) <| nR ?_
     refine wO 9 kR0 <| wI rfl rfl (fun k (h : _) => by (simp at h ⊢; omega)) (nAp rfl) (fun _ _ => z2o (fun k => k = 114) (ih ka hm0 (deep + 1) ⟨false, true, [], r8of f.types x.params, r8of f.types x.outs⟩ (seen ++ x.params) (z0e f.types set x.params (List.replicate x.params.length 0)).2 ⟨by omega, by omega⟩ hs1 hb0) zu3 rfl rfl (sSm rfl (sSm rfl (sSm rfl (Subs.cons (fun _ _ _ _ h => z4v (q := whv ⟨false, true, [], r8of f.types x.params, r8of f.types x.outs⟩) (PSub.agg (ps := [vBool false, vBool true, .val (.slice none 0 0), ints (r8of f.types x.params), ints (r8of f.types x.outs)]) (And.intro (PSub.refl _) (And.intro (PSub.refl _) (And.intro PSub.nil (And.intro (PSub.refl _) (And.intro (PSub.refl _) trivial)))))) h) (sSm rfl Subs.nil))))) (And.intro LendOf.same (And.intro LendOf.same (And.intro (LendOf.row rfl rfl (by (simp; done)) (by (simp; done))) (And.intro LendOf.same (And.intro LendOf.same (trivial)))))) (fun k h => by subst h; rfl) (po2 rfl rfl) rfl (fun k (h : _) => by (simp only [List.mem_cons, List.not_mem_nil, or_false] at h; rcases h with rfl | rfl <;> first | exact .inl rfl | exact .inr rfl | exact .inr dC0)) ⟨_, rfl⟩ (z2t (z2q ..))) <| wR 15 [10, 11, 12, 13, 14, 15, 16] kR0 h30 <| smR 1 rfl ?_
     refine WR.split (t := 134) rfl (fun hb134 => ?_) (fun hb134 => ?_)
     ·refine smR 2 rfl <| ryV rfl rfl rfl (oSm uT35 rfl) <| smR 2 rfl ?_
      refine WR.split (t := 139) rfl (fun hb139 => ?_) (fun hb139 => ?_)
      ·refine smR 1 rfl <| nR <| wN 17 kR0 h30 rfl rfl rfl <| wR 4 [18, 19, 20, 21, 22, 23, 24, 25, 26, 27] kR0 h30 <| smR 9 rfl <| ryV rfl rfl rfl (oSm uT35 rfl) <| nR <| wO 28 kR0 <| wY rfl rfl rfl (fun k (h : _) => by (simp at h ⊢; omega)) (z11 rfl) (fun _ _ => z0u (k := 252) (s := ⟨3, 1⟩) rfl rfl rfl uT35 tZ3 tC3 rfl dC0 oM0 oM0 rfl rfl rfl rfl) <| wO 29 kR0 <| wY rfl rfl rfl (fun k (h : _) => by (simp at h ⊢; omega)) (nAp rfl) (fun _ _ => z2o (fun k => k = 252) (z1d u f (z0c u f (deep + 1) ⟨false, true, [], r8of f.types x.params, r8of f.types x.outs⟩ (seen ++ x.params) (z0e f.types set x.params (List.replicate x.params.length 0)).2 ka).2 x.outs (List.replicate x.outs.length 0) hs2) z3a rfl rfl (sRf _ _) (And.intro LendOf.same (And.intro LendOf.same (And.intro (LendOf.row rfl rfl (by (simp; done)) (by (simp only [List.map_replicate]; rfl))) (trivial)))) (fun k h => by subst h; rfl) (po2 rfl rfl) rfl (fun k (h : _) => by (simp only [List.mem_cons, List.not_mem_nil, or_false] at h; rcases h with rfl | rfl <;> first | exact .inl rfl | exact .inr rfl | exact .inr dC0)) ⟨_, rfl⟩ (z2t (z0t ..))) <| wR 0 [30, 31] kR0 h30 ?_
       refine smR 2 rfl <| nR <| wDn kR0 <| tRt ?_
       (have h2 : (z0v u f deep wh seen set x).2 = (z0e f.types (z0c u f (deep + 1) ⟨false, true, [], r8of f.types x.params, r8of f.types x.outs⟩ (seen ++ x.params) (z0e f.types set x.params (List.replicate x.params.length 0)).2 ka).2 x.outs (List.replicate x.outs.length 0)).2 := (by rw [z08 _ _ _ _ _ _ hbare hk11 hkids]; simp_all [andT, andS, z12]; done)
        rw [h2]
        refine rOk rfl ?_ (po2 rfl rfl)
        clear h2
        rw [z08 _ _ _ _ _ _ hbare hk11 hkids]
        simp_all [andT, andS, z12]
        done)
      refine ryV rfl rfl rfl (lEA rfl rfl uT42 rfl tS42 (lb rfl)) <| nR <| wO 17 kR0 <| wY rfl rfl rfl (fun k (h : _) => by (simp at h ⊢; omega)) nw (fun _ _ => ocq (z48 _) y2u rfl rfl) <| wR 4 [18, 19, 20, 21, 22, 23, 24, 25, 26, 27] kR0 h30 <| smR 4 rfl ?_
      refine WR.split (t := 145) rfl (fun hb145 => ?_) (fun hb145 => ?_)
      ·refine smR 5 rfl <| ryV rfl rfl rfl (oSm uT35 rfl) <| nR <| wO 28 kR0 <| wY rfl rfl rfl (fun k (h : _) => by (simp at h ⊢; omega)) (z11 rfl) (fun _ _ => z0u (k := 252) (s := ⟨3, 1⟩) rfl rfl rfl uT35 tZ3 tC3 rfl dC0 oM0 oM0 rfl rfl rfl rfl) <| wO 29 kR0 <| wY rfl rfl rfl (fun k (h : _) => by (simp at h ⊢; omega)) (nAp rfl) (fun _ _ => z2o (fun k => k = 252) (z1d u f (z0c u f (deep + 1) ⟨false, true, [], r8of f.types x.params, r8of f.types x.outs⟩ (seen ++ x.params) (z0e f.types set x.params (List.replicate x.params.length 0)).2 ka).2 x.outs (List.replicate x.outs.length 0) hs2) z3a rfl rfl (sRf _ _) (And.intro LendOf.same (And.intro LendOf.same (And.intro (LendOf.row rfl rfl (by (simp; done)) (by (simp only [List.map_replicate]; rfl))) (trivial)))) (fun k h => by subst h; rfl) (po2 rfl rfl) rfl (fun k (h : _) => by (simp only [List.mem_cons, List.not_mem_nil, or_false] at h; rcases h with rfl | rfl <;> first | exact .inl rfl | exact .inr rfl | exact .inr dC0)) ⟨_, rfl⟩ (z2t (z0t ..))) <| wR 0 [30, 31] kR0 h30 <| smR 2 rfl <| nR <| wDn kR0 <| tRt ?_
       (have h2 : (z0v u f deep wh seen set x).2 = (z0e f.types (z0c u f (deep + 1) ⟨false, true, [], r8of f.types x.params, r8of f.types x.outs⟩ (seen ++ x.params) (z0e f.types set x.params (List.replicate x.params.length 0)).2 ka).2 x.outs (List.replicate x.outs.length 0)).2 := (by rw [z08 _ _ _ _ _ _ hbare hk11 hkids]; simp_all [andT, andS, z12]; done)
        rw [h2]
        refine rOk rfl ?_ (po2 rfl rfl)
        clear h2
        rw [z08 _ _ _ _ _ _ hbare hk11 hkids]
        simp_all [andT, andS, z12]
        done)
      refine smR 6 rfl <| nR <| wN 28 kR0 h30 rfl rfl rfl <| wN 29 kR0 h30 rfl rfl rfl <| wR 0 [30, 31] kR0 h30 <| smR 2 rfl <| nR <| wDn kR0 <| tRt ?_
      (have h2 : (z0v u f deep wh seen set x).2 = (z0c u f (deep + 1) ⟨false, true, [], r8of f.types x.params, r8of f.types x.outs⟩ (seen ++ x.params) (z0e f.types set x.params (List.replicate x.params.length 0)).2 ka).2 := (by rw [z08 _ _ _ _ _ _ hbare hk11 hkids]; simp_all [andT, andS, z12]; done)
       rw [h2]
       refine rOk rfl ?_ (po2 rfl rfl)
       clear h2
       rw [z08 _ _ _ _ _ _ hbare hk11 hkids]
       simp_all [andT, andS, z12]
       done)
     refine smR 5 rfl <| nUr rfl rfl rfl rfl rfl rfl rfl <| nR <| WA.takeNoU (i := 17) rfl kR0 kR0 kR0 h30 rfl rfl rfl rfl rfl rfl <| wR 4 [18, 19, 20, 21, 22, 23, 24, 25, 26, 27] kR0 h30 <| nUr rfl rfl rfl rfl rfl rfl rfl <| smR 9 rfl <| nR <| wN 28 kR0 h30 rfl rfl rfl <| wN 29 kR0 h30 rfl rfl rfl <| wR 0 [30, 31] kR0 h30 <| smR 2 rfl ?_
     refine nR <| wDn kR0 <| tRt ?_
     (have h2 : (z0v u f deep wh seen set x).2 = (z0c u f (deep + 1) ⟨false, true, [], r8of f.types x.params, r8of f.types x.outs⟩ (seen ++ x.params) (z0e f.types set x.params (List.replicate x.params.length 0)).2 ka).2 := (by rw [z08 _ _ _ _ _ _ hbare hk11 hkids]; simp_all [andT, andS, z12]; done)
      rw [h2]
      refine rOk rfl ?_ (po2 rfl rfl)
      clear h2
      rw [z08 _ _ _ _ _ _ hbare hk11 hkids]
      simp_all [andT, andS, z12]
      done)
    refine wI rfl rfl (fun k (h : _) => by (simp at h ⊢; omega)) (z11 rfl) (fun _ _ => aLc (k := 113) rfl tZ90 rfl rfl rfl rfl) <| wO 7 kR0 <| wI rfl rfl (fun k (h : _) => by (simp at h ⊢; omega)) (nAp rfl) (fun _ _ => ocr (z66 u f set x.outs hbo) z8d rfl (po2 rfl rfl) rfl (fun k (h : _) => by (simp only [List.mem_cons, List.not_mem_nil, or_false] at h; rcases h with rfl | rfl <;> first | exact .inl rfl | exact .inr rfl | exact .inr dC0)) rfl rfl) <| wR 1 [8] kR0 h30 <| rV rfl rfl (bPu rfl rfl tZ90 tP90 rfl (fbk rfl) rfl) <| nR <| wO 10 kR0 <| wI rfl rfl (fun k (h : _) => by (simp at h ⊢; omega)) (nOl rfl) (fun _ _ => sBA rfl rfl rfl rfl rfl sI0 tS90 (flk rfl) (lb rfl)) <| wDn kR0 <| tQ <| tQ <| tDr z1b (fun k => k ∈ ([3] : List Nat)) ?_
    refine wR 14 [0, 1, 2, 3, 4, 5, 6] kR0 h30 <| smR 7 rfl <| nR <| wO 7 kR0 <| wI rfl rfl (fun k (h : _) => by (simp at h ⊢; omega)) (nAp rfl) (fun _ _ => ocr (z66 u f set x.params hbp) z8d rfl (po2 rfl rfl) rfl (fun k (h : _) => by (simp only [List.mem_cons, List.not_mem_nil, or_false] at h; rcases h with rfl <;> first | exact .inl rfl | exact .inr rfl | exact .inr dC0)) rfl rfl) <| wO 8 kR0 <| wI rfl rfl (fun k (h : _) => by (simp at h ⊢; omega)) (nAp rfl) (fun _ _ => ocr (z1a u f set x.args seen (r8of f.types x.params)) z43 rfl (po2 rfl rfl) rfl (fun k (h : _) => .inr trivial) rfl rfl) <| wR 4 [9, 10, 11, 12, 13, 14, 15, 16] kR0 h30 <| smR 2 rfl ?_
    refine WR.split (t := 106) rfl (fun hb106 => ?_) (fun hb106 => ?_)
    ·refine smR 6 rfl <| nR <| wN 17 kR0 h30 rfl rfl rfl <| wN 18 kR0 h30 rfl rfl rfl <| wR 0 [19, 20] kR0 h30 <| smR 2 rfl <| nR <| wDn kR0 <| Tr.condT rfl <| tQ <| tG <| sm 1 rfl ?_
     refine nL <| tRt ?_
     (have h2 : (z0v u f deep wh seen set x).2 = set := (by rw [z08 _ _ _ _ _ _ hbare hk11 hkids]; simp_all [andT, andS, z12]; done)
      rw [h2]
      refine rOk rfl ?_ (po2 rfl rfl)
      clear h2
      rw [z08 _ _ _ _ _ _ hbare hk11 hkids]
      simp_all [andT, andS, z12]
      done)
    refine smR 5 rfl <| ryV rfl rfl rfl (oSm uT35 rfl) <| nR <| wO 17 kR0 <| wY rfl rfl rfl (fun k (h : _) => by (simp at h ⊢; omega)) (z11 rfl) (fun _ _ => z0u (k := 213) (s := ⟨3, 1⟩) rfl rfl rfl uT35 tZ3 tC3 rfl dC0 oM0 oM0 rfl rfl rfl rfl) <| wO 18 kR0 <| wY rfl rfl rfl (fun k (h : _) => by (simp at h ⊢; omega)) (nAp rfl) (fun _ _ => z2o (fun k => k = 213) (z1d u f set x.params (List.replicate x.params.length 0) hs) z3a rfl rfl (sRf _ _) (And.intro LendOf.same (And.intro LendOf.same (And.intro (LendOf.row rfl rfl (by (simp; done)) (by (simp only [List.map_replicate]; rfl))) (trivial)))) (fun k h => by subst h; rfl) (po2 rfl rfl) rfl (fun k (h : _) => by (simp only [List.mem_cons, List.not_mem_nil, or_false] at h; rcases h with rfl <;> first | exact .inl rfl | exact .inr rfl | exact .inr dC0)) ⟨_, rfl⟩ (z2t (z0t ..))) <| wR 0 [19, 20] kR0 h30 <| smR 2 rfl <| nR <| wDn kR0 ?_
    refine tC rfl (fun hc116 => ?_) fun hc116 => ?_
    ·refine tQ <| tG <| sm 1 rfl <| nL <| tRt ?_
     (have h2 : (z0v u f deep wh seen set x).2 = (z0e f.types set x.params (List.replicate x.params.length 0)).2 := (by rw [z08 _ _ _ _ _ _ hbare hk11 hkids]; simp_all [andT, andS, z12]; done)
      rw [h2]
      refine rOk rfl ?_ (po2 rfl rfl)
      clear h2
      rw [z08 _ _ _ _ _ _ hbare hk11 hkids]
      simp_all [andT, andS, z12]
      done)
    refine tSk <| tQ <| tG <| sm 1 rfl <| nL <| tQ <| Tr.grow (t := 14) (k := 114) ⟨3, 1⟩ rfl rfl rfl rfl rfl <| tG <| sm 2 rfl ?_
    refine cE rfl (aPp rfl rfl rfl rfl (by rfl) sI0 uT35 tB3 dC0 (z98) (z5x) (by simp [maxLen, z0o]; omega) (by simp [z0o]; omega)) ?_
    refine sm 1 rfl <| nL <| tQ <| tG <| sm 3 rfl ?_
    refine cE rfl (aPp rfl rfl rfl rfl (by (simp; done)) sI0 uT35 tB3 dC0 (z98) (z5x) (by simp [maxLen, z0o]; omega) (by simp [z0o]; omega)) ?_
    refine sm 1 rfl <| nL <| tQ <| tDr z1b (fun k => k ∈ ([3, 113] : List Nat)) <| wR 23 [0, 1, 2, 3, 4, 5, 6, 7, 8] kR0 h30 <| smR 3 rfl <| rV rfl rfl (iSq rfl rfl rfl uT40 hi0 tS43 rfl (by rfl)) <| smR 2 rfl <| rV rfl rfl (lBP rfl rfl rfl Tryz.underlying90 rfl tS90 (lb rfl) rfl dC0) <| smR 1 rfl <| rV rfl rfl (oB rfl rfl (z03 rfl oM0)) <| nR ?_
    refine wO 9 kR0 <| wI rfl rfl (fun k (h : _) => by (simp at h ⊢; omega)) (nAp rfl) (fun _ _ => z2o (fun k => k = 114) (ih ka hm0 (deep + 1) ⟨false, true, [], r8of f.types x.params, r8of f.types x.outs⟩ (seen ++ x.params) (z0e f.types set x.params (List.replicate x.params.length 0)).2 ⟨by omega, by omega⟩ hs1 hb0) zu3 rfl rfl (sSm rfl (sSm rfl (sSm rfl (Subs.cons (fun _ _ _ _ h => z4v (q := whv ⟨false, true, [], r8of f.types x.params, r8of f.types x.outs⟩) (PSub.agg (ps := [vBool false, vBool true, .val (.slice none 0 0), ints (r8of f.types x.params), ints (r8of f.types x.outs)]) (And.intro (PSub.refl _) (And.intro (PSub.refl _) (And.intro PSub.nil (And.intro (PSub.refl _) (And.intro (PSub.refl _) trivial)))))) h) (sSm rfl Subs.nil))))) (And.intro LendOf.same (And.intro LendOf.same (And.intro (LendOf.row rfl rfl (by (simp; done)) (by (simp; done))) (And.intro LendOf.same (And.intro LendOf.same (trivial)))))) (fun k h => by subst h; rfl) (po2 rfl rfl) rfl (fun k (h : _) => by (simp only [List.mem_cons, List.not_mem_nil, or_false] at h; rcases h with rfl | rfl <;> first | exact .inl rfl | exact .inr rfl | exact .inr dC0)) ⟨_, rfl⟩ (z2t (z2q ..))) <| wR 15 [10, 11, 12, 13, 14, 15, 16] kR0 h30 <| smR 1 rfl ?_
    refine WR.split (t := 134) rfl (fun hb134 => ?_) (fun hb134 => ?_)
    ·refine smR 2 rfl <| ryV rfl rfl rfl (oSm uT35 rfl) <| smR 2 rfl ?_
     refine WR.split (t := 139) rfl (fun hb139 => ?_) (fun hb139 => ?_)
     ·refine smR 1 rfl <| nR <| wN 17 kR0 h30 rfl rfl rfl <| wR 4 [18, 19, 20, 21, 22, 23, 24, 25, 26, 27] kR0 h30 <| smR 9 rfl <| ryV rfl rfl rfl (oSm uT35 rfl) <| nR <| wO 28 kR0 <| wY rfl rfl rfl (fun k (h : _) => by (simp at h ⊢; omega)) (z11 rfl) (fun _ _ => z0u (k := 252) (s := ⟨3, 1⟩) rfl rfl rfl uT35 tZ3 tC3 rfl dC0 oM0 oM0 rfl rfl rfl rfl) <| wO 29 kR0 <| wY rfl rfl rfl (fun k (h : _) => by (simp at h ⊢; omega)) (nAp rfl) (fun _ _ => z2o (fun k => k = 252) (z1d u f (z0c u f (deep + 1) ⟨false, true, [], r8of f.types x.params, r8of f.types x.outs⟩ (seen ++ x.params) (z0e f.types set x.params (List.replicate x.params.length 0)).2 ka).2 x.outs (List.replicate x.outs.length 0) hs2) z3a rfl rfl (sRf _ _) (And.intro LendOf.same (And.intro LendOf.same (And.intro (LendOf.row rfl rfl (by (simp; done)) (by (simp only [List.map_replicate]; rfl))) (trivial)))) (fun k h => by subst h; rfl) (po2 rfl rfl) rfl (fun k (h : _) => by (simp only [List.mem_cons, List.not_mem_nil, or_false] at h; rcases h with rfl | rfl <;> first | exact .inl rfl | exact .inr rfl | exact .inr dC0)) ⟨_, rfl⟩ (z2t (z0t ..))) <| wR 0 [30, 31] kR0 h30 ?_
      refine smR 2 rfl <| nR <| wDn kR0 <| tRt ?_
      (have h2 : (z0v u f deep wh seen set x).2 = (z0e f.types (z0c u f (deep + 1) ⟨false, true, [], r8of f.types x.params, r8of f.types x.outs⟩ (seen ++ x.params) (z0e f.types set x.params (List.replicate x.params.length 0)).2 ka).2 x.outs (List.replicate x.outs.length 0)).2 := (by rw [z08 _ _ _ _ _ _ hbare hk11 hkids]; simp_all [andT, andS, z12]; done)
       rw [h2]
       refine rOk rfl ?_ (po2 rfl rfl)
       clear h2
       rw [z08 _ _ _ _ _ _ hbare hk11 hkids]
       simp_all [andT, andS, z12]
       done)
     refine ryV rfl rfl rfl (lEA rfl rfl uT42 rfl tS42 (lb rfl)) <| nR <| wO 17 kR0 <| wY rfl rfl rfl (fun k (h : _) => by (simp at h ⊢; omega)) nw (fun _ _ => ocq (z48 _) y2u rfl rfl) <| wR 4 [18, 19, 20, 21, 22, 23, 24, 25, 26, 27] kR0 h30 <| smR 4 rfl ?_
     refine WR.split (t := 145) rfl (fun hb145 => ?_) (fun hb145 => ?_)
     ·refine smR 5 rfl <| ryV rfl rfl rfl (oSm uT35 rfl) <| nR <| wO 28 kR0 <| wY rfl rfl rfl (fun k (h : _) => by (simp at h ⊢; omega)) (z11 rfl) (fun _ _ => z0u (k := 252) (s := ⟨3, 1⟩) rfl rfl rfl uT35 tZ3 tC3 rfl dC0 oM0 oM0 rfl rfl rfl rfl) <| wO 29 kR0 <| wY rfl rfl rfl (fun k (h : _) => by (simp at h ⊢; omega)) (nAp rfl) (fun _ _ => z2o (fun k => k = 252) (z1d u f (z0c u f (deep + 1) ⟨false, true, [], r8of f.types x.params, r8of f.types x.outs⟩ (seen ++ x.params) (z0e f.types set x.params (List.replicate x.params.length 0)).2 ka).2 x.outs (List.replicate x.outs.length 0) hs2) z3a rfl rfl (sRf _ _) (And.intro LendOf.same (And.intro LendOf.same (And.intro (LendOf.row rfl rfl (by (simp; done)) (by (simp only [List.map_replicate]; rfl))) (trivial)))) (fun k h => by subst h; rfl) (po2 rfl rfl) rfl (fun k (h : _) => by (simp only [List.mem_cons, List.not_mem_nil, or_false] at h; rcases h with rfl | rfl <;> first | exact .inl rfl | exact .inr rfl | exact .inr dC0)) ⟨_, rfl⟩ (z2t (z0t ..))) <| wR 0 [30, 31] kR0 h30 <| smR 2 rfl <| nR <| wDn kR0 <| tRt ?_
      (have h2 : (z0v u f deep wh seen set x).2 = (z0e f.types (z0c u f (deep + 1) ⟨false, true, [], r8of f.types x.params, r8of f.types x.outs⟩ (seen ++ x.params) (z0e f.types set x.params (List.replicate x.params.length 0)).2 ka).2 x.outs (List.replicate x.outs.length 0)).2 := (by rw [z08 _ _ _ _ _ _ hbare hk11 hkids]; simp_all [andT, andS, z12]; done)
       rw [h2]
       refine rOk rfl ?_ (po2 rfl rfl)
       clear h2
       rw [z08 _ _ _ _ _ _ hbare hk11 hkids]
       simp_all [andT, andS, z12]
       done)
     refine smR 6 rfl <| nR <| wN 28 kR0 h30 rfl rfl rfl <| wN 29 kR0 h30 rfl rfl rfl <| wR 0 [30, 31] kR0 h30 <| smR 2 rfl <| nR <| wDn kR0 <| tRt ?_
     (have h2 : (z0v u f deep wh seen set x).2 = (z0c u f (deep + 1) ⟨false, true, [], r8of f.types x.params, r8of f.types x.outs⟩ (seen ++ x.params) (z0e f.types set x.params (List.replicate x.params.length 0)).2 ka).2 := (by rw [z08 _ _ _ _ _ _ hbare hk11 hkids]; simp_all [andT, andS, z12]; done)
      rw [h2]
      refine rOk rfl ?_ (po2 rfl rfl)
      clear h2
      rw [z08 _ _ _ _ _ _ hbare hk11 hkids]
      simp_all [andT, andS, z12]
      done)
    refine smR 5 rfl <| nUr rfl rfl rfl rfl rfl rfl rfl <| nR <| WA.takeNoU (i := 17) rfl kR0 kR0 kR0 h30 rfl rfl rfl rfl rfl rfl <| wR 4 [18, 19, 20, 21, 22, 23, 24, 25, 26, 27] kR0 h30 <| nUr rfl rfl rfl rfl rfl rfl rfl <| smR 9 rfl <| nR <| wN 28 kR0 h30 rfl rfl rfl <| wN 29 kR0 h30 rfl rfl rfl <| wR 0 [30, 31] kR0 h30 <| smR 2 rfl ?_
    refine nR <| wDn kR0 <| tRt ?_
    (have h2 : (z0v u f deep wh seen set x).2 = (z0c u f (deep + 1) ⟨false, true, [], r8of f.types x.params, r8of f.types x.outs⟩ (seen ++ x.params) (z0e f.types set x.params (List.replicate x.params.length 0)).2 ka).2 := (by rw [z08 _ _ _ _ _ _ hbare hk11 hkids]; simp_all [andT, andS, z12]; done)
     rw [h2]
     refine rOk rfl ?_ (po2 rfl rfl)
     clear h2
     rw [z08 _ _ _ _ _ _ hbare hk11 hkids]
     simp_all [andT, andS, z12]
     done)
   refine wI rfl rfl (fun k (h : _) => by (simp at h ⊢; omega)) (z11 rfl) (fun _ _ => aLc (k := 113) rfl tZ90 rfl rfl rfl rfl) <| wO 3 kR0 <| wI rfl rfl (fun k (h : _) => by (simp at h ⊢; omega)) (nAp rfl) (fun _ _ => ocr (z66 u f set x.params hbp) z8d rfl (po2 rfl rfl) rfl (fun k (h : _) => by (simp only [List.mem_cons, List.not_mem_nil, or_false] at h; rcases h with rfl | rfl <;> first | exact .inl rfl | exact .inr rfl | exact .inr dC0)) rfl rfl) <| wO 7 kR0 <| wI rfl rfl (fun k (h : _) => by (simp at h ⊢; omega)) (nAp rfl) (fun _ _ => ocr (z66 u f set x.outs hbo) z8d rfl (po2 rfl rfl) rfl (fun k (h : _) => by (simp only [List.mem_cons, List.not_mem_nil, or_false] at h; rcases h with rfl | rfl <;> first | exact .inl rfl | exact .inr rfl | exact .inr dC0)) rfl rfl) <| wR 1 [8] kR0 h30 <| rV rfl rfl (bPu rfl rfl tZ90 tP90 rfl (fbk rfl) rfl) <| nR <| wO 10 kR0 <| wI rfl rfl (fun k (h : _) => by (simp at h ⊢; omega)) (nOl rfl) (fun _ _ => sBA rfl rfl rfl rfl rfl sI0 tS90 (flk rfl) (lb rfl)) <| wDn kR0 <| tQ ?_
   refine tQ <| tDr z1b (fun k => k ∈ ([3] : List Nat)) <| wR 14 [0, 1, 2, 3, 4, 5, 6] kR0 h30 <| smR 7 rfl <| nR <| wO 7 kR0 <| wI rfl rfl (fun k (h : _) => by (simp at h ⊢; omega)) (nAp rfl) (fun _ _ => ocr (z66 u f set x.params hbp) z8d rfl (po2 rfl rfl) rfl (fun k (h : _) => by (simp only [List.mem_cons, List.not_mem_nil, or_false] at h; rcases h with rfl <;> first | exact .inl rfl | exact .inr rfl | exact .inr dC0)) rfl rfl) <| wO 8 kR0 <| wI rfl rfl (fun k (h : _) => by (simp at h ⊢; omega)) (nAp rfl) (fun _ _ => ocr (z1a u f set x.args seen (r8of f.types x.params)) z43 rfl (po2 rfl rfl) rfl (fun k (h : _) => .inr trivial) rfl rfl) <| wR 4 [9, 10, 11, 12, 13, 14, 15, 16] kR0 h30 <| smR 2 rfl ?_
   refine WR.split (t := 106) rfl (fun hb106 => ?_) (fun hb106 => ?_)
   ·refine smR 6 rfl <| nR <| wN 17 kR0 h30 rfl rfl rfl <| wN 18 kR0 h30 rfl rfl rfl <| wR 0 [19, 20] kR0 h30 <| smR 2 rfl <| nR <| wDn kR0 <| Tr.condT rfl <| tQ <| tG <| sm 1 rfl ?_
    refine nL <| tRt ?_
    (have h2 : (z0v u f deep wh seen set x).2 = set := (by rw [z08 _ _ _ _ _ _ hbare hk11 hkids]; simp_all [andT, andS, z12]; done)
     rw [h2]
     refine rOk rfl ?_ (po2 rfl rfl)
     clear h2
     rw [z08 _ _ _ _ _ _ hbare hk11 hkids]
     simp_all [andT, andS, z12]
     done)
   refine smR 5 rfl <| ryV rfl rfl rfl (oSm uT35 rfl) <| nR <| wO 17 kR0 <| wY rfl rfl rfl (fun k (h : _) => by (simp at h ⊢; omega)) (z11 rfl) (fun _ _ => z0u (k := 213) (s := ⟨3, 1⟩) rfl rfl rfl uT35 tZ3 tC3 rfl dC0 oM0 oM0 rfl rfl rfl rfl) <| wO 18 kR0 <| wY rfl rfl rfl (fun k (h : _) => by (simp at h ⊢; omega)) (nAp rfl) (fun _ _ => z2o (fun k => k = 213) (z1d u f set x.params (List.replicate x.params.length 0) hs) z3a rfl rfl (sRf _ _) (And.intro LendOf.same (And.intro LendOf.same (And.intro (LendOf.row rfl rfl (by (simp; done)) (by (simp only [List.map_replicate]; rfl))) (trivial)))) (fun k h => by subst h; rfl) (po2 rfl rfl) rfl (fun k (h : _) => by (simp only [List.mem_cons, List.not_mem_nil, or_false] at h; rcases h with rfl <;> first | exact .inl rfl | exact .inr rfl | exact .inr dC0)) ⟨_, rfl⟩ (z2t (z0t ..))) <| wR 0 [19, 20] kR0 h30 <| smR 2 rfl <| nR <| wDn kR0 ?_
   refine tC rfl (fun hc116 => ?_) fun hc116 => ?_
   ·refine tQ <| tG <| sm 1 rfl <| nL <| tRt ?_
    (have h2 : (z0v u f deep wh seen set x).2 = (z0e f.types set x.params (List.replicate x.params.length 0)).2 := (by rw [z08 _ _ _ _ _ _ hbare hk11 hkids]; simp_all [andT, andS, z12]; done)
     rw [h2]
     refine rOk rfl ?_ (po2 rfl rfl)
     clear h2
     rw [z08 _ _ _ _ _ _ hbare hk11 hkids]
     simp_all [andT, andS, z12]
     done)
   refine tSk <| tQ <| tG <| sm 1 rfl <| nL <| tQ <| Tr.grow (t := 14) (k := 114) ⟨3, 1⟩ rfl rfl rfl rfl rfl <| tG <| sm 2 rfl ?_
   refine cE rfl (aPp rfl rfl rfl rfl (by rfl) sI0 uT35 tB3 dC0 (z98) (z5x) (by simp [maxLen, z0o]; omega) (by simp [z0o]; omega)) ?_
   refine sm 1 rfl <| nL <| tQ <| tG <| sm 3 rfl ?_
   refine cE rfl (aPp rfl rfl rfl rfl (by (simp; done)) sI0 uT35 tB3 dC0 (z98) (z5x) (by simp [maxLen, z0o]; omega) (by simp [z0o]; omega)) ?_
   refine sm 1 rfl <| nL <| tQ <| tDr z1b (fun k => k ∈ ([3, 113] : List Nat)) <| wR 23 [0, 1, 2, 3, 4, 5, 6, 7, 8] kR0 h30 <| smR 3 rfl <| rV rfl rfl (iSq rfl rfl rfl uT40 hi0 tS43 rfl (by rfl)) <| smR 2 rfl <| rV rfl rfl (lBP rfl rfl rfl Tryz.underlying90 rfl tS90 (lb rfl) rfl dC0) <| smR 1 rfl <| rV rfl rfl (oB rfl rfl (z03 rfl oM0)) <| nR ?_
   refine wO 9 kR0 <| wI rfl rfl (fun k (h : _) => by (simp at h ⊢; omega)) (nAp rfl) (fun _ _ => z2o (fun k => k = 114) (ih ka hm0 (deep + 1) ⟨false, true, [], r8of f.types x.params, r8of f.types x.outs⟩ (seen ++ x.params) (z0e f.types set x.params (List.replicate x.params.length 0)).2 ⟨by omega, by omega⟩ hs1 hb0) zu3 rfl rfl (sSm rfl (sSm rfl (sSm rfl (Subs.cons (fun _ _ _ _ h => z4v (q := whv ⟨false, true, [], r8of f.types x.params, r8of f.types x.outs⟩) (PSub.agg (ps := [vBool false, vBool true, .val (.slice none 0 0), ints (r8of f.types x.params), ints (r8of f.types x.outs)]) (And.intro (PSub.refl _) (And.intro (PSub.refl _) (And.intro PSub.nil (And.intro (PSub.refl _) (And.intro (PSub.refl _) trivial)))))) h) (sSm rfl Subs.nil))))) (And.intro LendOf.same (And.intro LendOf.same (And.intro (LendOf.row rfl rfl (by (simp; done)) (by (simp; done))) (And.intro LendOf.same (And.intro LendOf.same (trivial)))))) (fun k h => by subst h; rfl) (po2 rfl rfl) rfl (fun k (h : _) => by (simp only [List.mem_cons, List.not_mem_nil, or_false] at h; rcases h with rfl | rfl <;> first | exact .inl rfl | exact .inr rfl | exact .inr dC0)) ⟨_, rfl⟩ (z2t (z2q ..))) <| wR 15 [10, 11, 12, 13, 14, 15, 16] kR0 h30 <| smR 1 rfl ?_
   refine WR.split (t := 134) rfl (fun hb134 => ?_) (fun hb134 => ?_)
   ·refine smR 2 rfl <| ryV rfl rfl rfl (oSm uT35 rfl) <| smR 2 rfl ?_
    refine WR.split (t := 139) rfl (fun hb139 => ?_) (fun hb139 => ?_)
    ·refine smR 1 rfl <| nR <| wN 17 kR0 h30 rfl rfl rfl <| wR 4 [18, 19, 20, 21, 22, 23, 24, 25, 26, 27] kR0 h30 <| smR 9 rfl <| ryV rfl rfl rfl (oSm uT35 rfl) <| nR <| wO 28 kR0 <| wY rfl rfl rfl (fun k (h : _) => by (simp at h ⊢; omega)) (z11 rfl) (fun _ _ => z0u (k := 252) (s := ⟨3, 1⟩) rfl rfl rfl uT35 tZ3 tC3 rfl dC0 oM0 oM0 rfl rfl rfl rfl) <| wO 29 kR0 <| wY rfl rfl rfl (fun k (h : _) => by (simp at h ⊢; omega)) (nAp rfl) (fun _ _ => z2o (fun k => k = 252) (z1d u f (z0c u f (deep + 1) ⟨false, true, [], r8of f.types x.params, r8of f.types x.outs⟩ (seen ++ x.params) (z0e f.types set x.params (List.replicate x.params.length 0)).2 ka).2 x.outs (List.replicate x.outs.length 0) hs2) z3a rfl rfl (sRf _ _) (And.intro LendOf.same (And.intro LendOf.same (And.intro (LendOf.row rfl rfl (by (simp; done)) (by (simp only [List.map_replicate]; rfl))) (trivial)))) (fun k h => by subst h; rfl) (po2 rfl rfl) rfl (fun k (h : _) => by (simp only [List.mem_cons, List.not_mem_nil, or_false] at h; rcases h with rfl | rfl <;> first | exact .inl rfl | exact .inr rfl | exact .inr dC0)) ⟨_, rfl⟩ (z2t (z0t ..))) <| wR 0 [30, 31] kR0 h30 ?_
     refine smR 2 rfl <| nR <| wDn kR0 <| tRt ?_
     (have h2 : (z0v u f deep wh seen set x).2 = (z0e f.types (z0c u f (deep + 1) ⟨false, true, [], r8of f.types x.params, r8of f.types x.outs⟩ (seen ++ x.params) (z0e f.types set x.params (List.replicate x.params.length 0)).2 ka).2 x.outs (List.replicate x.outs.length 0)).2 := (by rw [z08 _ _ _ _ _ _ hbare hk11 hkids]; simp_all [andT, andS, z12]; done)
      rw [h2]
      refine rOk rfl ?_ (po2 rfl rfl)
      clear h2
      rw [z08 _ _ _ _ _ _ hbare hk11 hkids]
      simp_all [andT, andS, z12]
      done)
    refine ryV rfl rfl rfl (lEA rfl rfl uT42 rfl tS42 (lb rfl)) <| nR <| wO 17 kR0 <| wY rfl rfl rfl (fun k (h : _) => by (simp at h ⊢; omega)) nw (fun _ _ => ocq (z48 _) y2u rfl rfl) <| wR 4 [18, 19, 20, 21, 22, 23, 24, 25, 26, 27] kR0 h30 <| smR 4 rfl ?_
    refine WR.split (t := 145) rfl (fun hb145 => ?_) (fun hb145 => ?_)
    ·refine smR 5 rfl <| ryV rfl rfl rfl (oSm uT35 rfl) <| nR <| wO 28 kR0 <| wY rfl rfl rfl (fun k (h : _) => by (simp at h ⊢; omega)) (z11 rfl) (fun _ _ => z0u (k := 252) (s := ⟨3, 1⟩) rfl rfl rfl uT35 tZ3 tC3 rfl dC0 oM0 oM0 rfl rfl rfl rfl) <| wO 29 kR0 <| wY rfl rfl rfl (fun k (h : _) => by (simp at h ⊢; omega)) (nAp rfl) (fun _ _ => z2o (fun k => k = 252) (z1d u f (z0c u f (deep + 1) ⟨false, true, [], r8of f.types x.params, r8of f.types x.outs⟩ (seen ++ x.params) (z0e f.types set x.params (List.replicate x.params.length 0)).2 ka).2 x.outs (List.replicate x.outs.length 0) hs2) z3a rfl rfl (sRf _ _) (And.intro LendOf.same (And.intro LendOf.same (And.intro (LendOf.row rfl rfl (by (simp; done)) (by (simp only [List.map_replicate]; rfl))) (trivial)))) (fun k h => by subst h; rfl) (po2 rfl rfl) rfl (fun k (h : _) => by (simp only [List.mem_cons, List.not_mem_nil, or_false] at h; rcases h with rfl | rfl <;> first | exact .inl rfl | exact .inr rfl | exact .inr dC0)) ⟨_, rfl⟩ (z2t (z0t ..))) <| wR 0 [30, 31] kR0 h30 <| smR 2 rfl <| nR <| wDn kR0 <| tRt ?_
     (have h2 : (z0v u f deep wh seen set x).2 = (z0e f.types (z0c u f (deep + 1) ⟨false, true, [], r8of f.types x.params, r8of f.types x.outs⟩ (seen ++ x.params) (z0e f.types set x.params (List.replicate x.params.length 0)).2 ka).2 x.outs (List.replicate x.outs.length 0)).2 := (by rw [z08 _ _ _ _ _ _ hbare hk11 hkids]; simp_all [andT, andS, z12]; done)
      rw [h2]
      refine rOk rfl ?_ (po2 rfl rfl)
      clear h2
      rw [z08 _ _ _ _ _ _ hbare hk11 hkids]
      simp_all [andT, andS, z12]
      done)
    refine smR 6 rfl <| nR <| wN 28 kR0 h30 rfl rfl rfl <| wN 29 kR0 h30 rfl rfl rfl <| wR 0 [30, 31] kR0 h30 <| smR 2 rfl <| nR <| wDn kR0 <| tRt ?_
    (have h2 : (z0v u f deep wh seen set x).2 = (z0c u f (deep + 1) ⟨false, true, [], r8of f.types x.params, r8of f.types x.outs⟩ (seen ++ x.params) (z0e f.types set x.params (List.replicate x.params.length 0)).2 ka).2 := (by rw [z08 _ _ _ _ _ _ hbare hk11 hkids]; simp_all [andT, andS, z12]; done)
     rw [h2]
     refine rOk rfl ?_ (po2 rfl rfl)
     clear h2
     rw [z08 _ _ _ _ _ _ hbare hk11 hkids]
     simp_all [andT, andS, z12]
     done)
   refine smR 5 rfl <| nUr rfl rfl rfl rfl rfl rfl rfl <| nR <| WA.takeNoU (i := 17) rfl kR0 kR0 kR0 h30 rfl rfl rfl rfl rfl rfl <| wR 4 [18, 19, 20, 21, 22, 23, 24, 25, 26, 27] kR0 h30 <| nUr rfl rfl rfl rfl rfl rfl rfl <| smR 9 rfl <| nR <| wN 28 kR0 h30 rfl rfl rfl <| wN 29 kR0 h30 rfl rfl rfl <| wR 0 [30, 31] kR0 h30 <| smR 2 rfl ?_
   refine nR <| wDn kR0 <| tRt ?_
   (have h2 : (z0v u f deep wh seen set x).2 = (z0c u f (deep + 1) ⟨false, true, [], r8of f.types x.params, r8of f.types x.outs⟩ (seen ++ x.params) (z0e f.types set x.params (List.replicate x.params.length 0)).2 ka).2 := (by rw [z08 _ _ _ _ _ _ hbare hk11 hkids]; simp_all [andT, andS, z12]; done)
    rw [h2]
    refine rOk rfl ?_ (po2 rfl rfl)
    clear h2
    rw [z08 _ _ _ _ _ _ hbare hk11 hkids]
    simp_all [andT, andS, z12]
    done)
  refine tSk <| tQ <| tG <| sm 1 rfl <| cV rfl (lEA rfl rfl uT42 rfl tS42 (lb rfl)) <| sm 1 rfl <| cV rfl (lEA rfl rfl Tryz.underlying90 rfl tS90 (lb rfl)) <| cE rfl (ocr (y18 u f set hs hg x seen wh) ent104 rfl (po2 rfl rfl) rfl (fun k (h : _) => .inr h) rfl rfl) <| sm 1 rfl <| nL <| tRt ?_
  rw [z6q _ _ _ _ _ _ hbare hc20 hc85]
  exact rOk rfl rfl (po2 rfl rfl)
theorem zr2 (N : Nat) : ∀ (u : Un) (f : Fl) (hg : ∀ g ∈ u.flows, 0 <= g.params /\ g.params <= g.types.length) (l : List Nd) (deep : Int) (wh : Wh) (all : List Int) (set : List Bool) (hd : 0 <= deep /\ deep <= 101) (hs : set.length = f.types.length) (hb : all.length + lsW l <= 1073741824), SizeOf.sizeOf l < N -> SC Tryz.prog 52 [.ptr 3 0, .pv (z09 l), .pv (ints all), .pv (whv wh), iInt deep] (ckHp u f 4 set) (fun k => k = 3) (iBool (z0c u f deep wh all set l).1) (ckHp u f 4 (z0c u f deep wh all set l).2) := by
  induction N with
  | zero => intro u f hg l deep wh all set hd hs hb hN; exact absurd hN (Nat.not_lt_zero _)
  | succ N ih =>
    intro u f hg l deep wh all set hd hs hb hN
    refine SC.of Tryz.func52 rfl (lb rfl) fun F ρ w => ?_
    refine Tr.lenOf (t := 1) rfl (fun hl => ?_)
    simp only [List.length_map] at hl
    refine tQ <| tG <| cE rfl (z1c rfl rfl) <| sm 1 rfl <| nL <| tQ <| tG <| sm 1 rfl <| nL <| tQ <| Tr.grow (t := 11) (k := 111) ⟨3, 1⟩ rfl rfl rfl rfl rfl <| tG ?_
    refine sm 2 rfl ?_
    refine cE rfl (aPp rfl rfl rfl rfl (by rfl) sI0 uT35 tB3 dC0 (z98) (z5x) (by simp [maxLen, z0o]; omega) (by simp [z0o]; omega)) ?_
    refine sm 1 rfl <| nL <| tQ <| tQ <| tG <| sm 1 rfl <| nL <| tBk <| Tr.sub (Sub.of (fr' := [(12, iInt 0), (11, .sl 111 all.length), (8, .pv (.ept [vBool wh.If, vBool wh.Loop, ints wh.Yield, ints wh.Next, ints wh.Left] 0)), (0, .ptr 3 0), (1, .pv (z09 l)), (4, iInt deep)]) ⟨rfl, congrArg (fun z => some (IV.sl 111 z)) sI0, rfl, rfl, rfl, rfl, trivial⟩) <| Tr.heap (σ' := look ((111, some (.row ⟨3, 1⟩ (all.map eInt))) :: up (ckHp u f 4 set))) (fun _ => congrFun z8t _) ?_
    refine Tr.loop (fun fr σ m => ∃ (k : Nat) (al : List Int) (st : List Bool), (k <= l.length) /\ (r8go u f deep wh all set l = r8go u f deep wh al st (l.drop k)) /\ (st.length = f.types.length) /\ (al.length + lsW (l.drop k) <= 1073741824) /\ fr = [(12, iInt k), (11, .sl 111 al.length), (8, .pv (.ept [vBool wh.If, vBool wh.Loop, ints wh.Yield, ints wh.Next, ints wh.Left] 0)), (0, .ptr 3 0), (1, .pv (z09 l)), (4, iInt deep)] /\ σ = look ((111, some (.row ⟨3, 1⟩ (al.map eInt))) :: up (ckHp u f 4 st)) /\ m = l.length - k) (n := l.length - 0) ?_ ?_
    ·exact ⟨0, all, set, Nat.zero_le _, rfl, hs, hb, rfl, rfl, rfl⟩
    rintro fr σ m ⟨k, al, st, hI0, hI1, hI2, hI3, rfl, rfl, rfl⟩
    refine tQ <| tQ <| tG <| sm 2 rfl <| cV rfl (oSm uT43 rfl) <| sm 1 rfl <| nL ?_
    refine tC rfl (fun hc19 => ?_) fun hc19 => ?_
    ·have hlt : k < l.length := by simpa using hc19
     have hd2 := List.drop_eq_getElem_cons hlt
     have hm := List.getElem_mem hlt
     have hi := z0p (List.getElem?_eq_getElem hlt)
     generalize l[k] = x at hd2 hm hi
     have hxo : x.outs.length <= ndW x := by have := zc0 x; omega
     have hbn : al.length + ndW x <= 1073741824 := by rw [hd2] at hI3; simp only [lsW] at hI3; omega
     refine tSk <| tQ <| tBk <| tQ <| tQ <| tDr z1b (fun k => k ∈ ([3] : List Nat)) <| wR 16 [0, 1, 2, 3, 4, 5, 6, 7, 8, 9, 10] kR0 h30 <| smR 3 rfl ?_
     refine WR.split (t := 24) rfl (fun hb24 => ?_) (fun hb24 => ?_)
     ·refine smR 8 rfl <| nR <| wN 11 kR0 h30 rfl rfl rfl <| wR 3 [12, 13, 14, 15, 16, 17, 18, 20, 21, 22, 23, 24] kR0 h30 <| smR 12 rfl <| nR <| wN 19 kR0 h30 rfl rfl rfl <| wR 0 [25, 26] kR0 h30 <| smR 2 rfl <| nR <| wDn kR0 <| Tr.condT rfl ?_
      refine tQ <| tG <| sm 1 rfl <| nL <| tRt ?_
      (have h2 : z0c u f deep wh all set l = (false, st) := by
         rw [zi4 hlt, hI1, hd2]
         unfold r8go
         rw [if_pos (by simpa using hb24)]
       rw [h2]
       exact rOk rfl rfl (po2 rfl rfl))
     refine smR 3 rfl <| ryV rfl rfl rfl (iSq rfl rfl rfl uT43 hi tS42 rfl (by rfl)) <| ryV rfl rfl rfl (lEA rfl rfl uT42 rfl tS42 (lb rfl)) <| smR 1 rfl <| ryV rfl rfl rfl (lEA rfl rfl Tryz.underlying90 rfl tS90 (lb rfl)) <| smR 1 rfl <| nR <| wO 11 kR0 <| wY rfl rfl rfl (fun k (h : _) => by (simp at h ⊢; omega)) (nAp rfl) (fun _ _ => z2o (fun k => k = 111) (y6i u f hg x deep ⟨hd.1, by simp at hb24; omega⟩ wh al st hI2 hbn (fun q hq deep w all set hd hs hb => ih u f hg q deep w all set hd hs hb (Nat.lt_of_lt_of_le (z4s hm rfl hq) (Nat.le_of_lt_succ hN)))) ent79 rfl rfl (sRf _ _) (And.intro LendOf.same (And.intro LendOf.same (And.intro (LendOf.row rfl rfl (by (simp; done)) (by rfl)) (And.intro LendOf.same (And.intro LendOf.same (trivial)))))) (fun k h => by subst h; rfl) (po2 rfl rfl) rfl (fun k (h : _) => by (simp only [List.mem_cons, List.not_mem_nil, or_false] at h; rcases h with rfl <;> first | exact .inl rfl | exact .inr rfl | exact .inr dC0)) ⟨_, rfl⟩ (z2t (z6p ..))) <| wR 3 [12, 13, 14, 15, 16, 17, 18, 20, 21, 22, 23, 24] kR0 h30 <| smR 3 rfl ?_
     refine WR.split (t := 36) rfl (fun hb36 => ?_) (fun hb36 => ?_)
     ·refine smR 9 rfl <| nR <| wN 19 kR0 h30 rfl rfl rfl <| wR 0 [25, 26] kR0 h30 <| smR 2 rfl <| nR <| wDn kR0 <| Tr.condT rfl <| tQ <| tG <| sm 1 rfl <| nL ?_
      refine tRt ?_
      (have h2 : z0c u f deep wh all set l = (false, (z0v u f deep wh al st x).2) := by
         rw [zi4 hlt, hI1, hd2]
         unfold r8go
         rw [if_neg (by simpa using hb24)]
         have hn1 : (z0v u f deep wh al st x).1 = false := by simpa using hb36
         simp [andT, hn1]
       rw [h2]
       exact rOk rfl rfl (po2 rfl rfl))
     refine smR 2 rfl <| ryV rfl rfl rfl (iSq rfl rfl rfl uT43 hi tS42 rfl (by rfl)) <| ryV rfl rfl rfl (lEA rfl rfl uT42 rfl tS42 (lb rfl)) <| smR 2 rfl <| ryV rfl rfl rfl (oSm uT43 rfl) <| ryV rfl rfl rfl (oB rfl rfl (z63 rfl oM0)) <| smR 1 rfl <| nR <| wO 19 kR0 <| wY rfl rfl rfl (fun k (h : _) => by (simp at h ⊢; omega)) nw (fun _ _ => ocq (z48 _) y2u rfl rfl) <| wR 0 [25, 26] kR0 h30 <| ryV rfl rfl rfl (z8u rfl rfl rfl Tryz.underlying4) ?_
     refine smR 1 rfl <| nR <| wDn kR0 ?_
     refine tC rfl (fun hc48 => ?_) fun hc48 => ?_
     ·refine tQ <| tG <| sm 1 rfl <| nL <| tRt ?_
      (have h2 : z0c u f deep wh all set l = (false, (z0v u f deep wh al st x).2) := by
         rw [zi4 hlt, hI1, hd2]
         unfold r8go
         rw [if_neg (by simpa using hb24)]
         have hn1 : (z0v u f deep wh al st x).1 = true := by simpa using hb36
         have hcl : (z04 x != (l.drop (k + 1)).isEmpty) = true := by rw [z5w hlt]; simpa using hc48
         simp [andT, hn1, hcl]
       rw [h2]
       exact rOk rfl rfl (po2 rfl rfl))
     refine tSk <| tG <| sm 3 rfl <| cV rfl (iSq rfl rfl rfl uT43 hi tS42 rfl (by rfl)) <| sm 2 rfl ?_
     refine cE rfl (aPp rfl rfl rfl rfl (by (simp; done)) sI0 uT35 tB3 dC0 (z98) (z5x) (by simp [maxLen, z0o]; omega) (by simp [z0o]; omega)) ?_
     refine sm 1 rfl <| nL <| tG <| sm 1 rfl <| cV rfl (oB rfl rfl (z03 rfl oM0)) <| sm 1 rfl <| nL ?_
     refine ⟨_, _, ?_, Sub.of (fr' := [(12, iInt (k + 1)), (11, .sl 111 (al ++ x.outs).length), (8, .pv (.ept [vBool wh.If, vBool wh.Loop, ints wh.Yield, ints wh.Next, ints wh.Left] 0)), (0, .ptr 3 0), (1, .pv (z09 l)), (4, iInt deep)]) ⟨rfl, congrArg (fun z => some (IV.sl 111 z)) sI0, rfl, rfl, rfl, rfl, trivial⟩, (k + 1), (al ++ x.outs), (z0v u f deep wh al st x).2, ?_, ?_, ?_, ?_, rfl, ck_row', rfl⟩
     ·omega
     ·omega
     ·rw [hI1, hd2]
      have hn1 : (z0v u f deep wh al st x).1 = true := by simpa using hb36
      have hcl : (z04 x != (l.drop (k + 1)).isEmpty) = false := by rw [z5w hlt]; simpa using hc48
      have hdp : ¬ deep > 100 := by simpa using hb24
      conv => lhs; unfold r8go
      simp only [if_neg hdp, andT, hn1, hcl, if_true]
      rfl
     ·exact (z6p ..).trans hI2
     rw [hd2] at hI3; have hWx := zc0 x; simp only [lsW] at hI3; simp only [List.length_append]; omega
    refine tEx <| tQ <| tG <| sm 1 rfl <| cV rfl (oSm uT43 rfl) <| sm 2 rfl <| nL <| tRt ?_
    have hge : l.length <= k := by simpa using hc19
    have hgo : r8go u f deep wh all set l = (true, st) := by rw [hI1, List.drop_eq_nil_of_le hge]; simp [r8go]
    have h2 : (z0c u f deep wh all set l) = (decide ((l.length : Int) > 0), st) := by
      unfold z0c ne
      rw [hgo]
      cases l <;> simp <;> omega
    rw [h2]
    exact rOk rfl rfl (po2 rfl rfl)
theorem y6h (u : Un) (f : Fl) (hg : ∀ g ∈ u.flows, 0 <= g.params /\ g.params <= g.types.length) (l : List Nd) (deep : Int) (wh : Wh) (all : List Int) (set : List Bool) (hd : 0 <= deep /\ deep <= 101) (hs : set.length = f.types.length) (hb : all.length + lsW l <= 1073741824) : SC Tryz.prog 52 [.ptr 3 0, .pv (z09 l), .pv (ints all), .pv (whv wh), iInt deep] (ckHp u f 4 set) (fun k => k = 3) (iBool (z0c u f deep wh all set l).1) (ckHp u f 4 (z0c u f deep wh all set l).2) := zr2 _ u f hg l deep wh all set hd hs hb (Nat.lt_succ_self _)
theorem zj3 (n : Int) : SC Tryz.prog 76 [.pv (vU8 n)] [] (fun _ => False) (iBool (z1s n)) [] := by
  refine SC.of Tryz.func76 rfl (lb rfl) fun F ρ w => ?_
  refine tQ <| tG <| sm 1 rfl <| nL <| tQ <| tG <| sm 3 rfl ?_
  refine wS 5 rfl (fun hb5 => ?_) fun hb5 => ?_
  ·refine sm 4 rfl ?_
   refine wS 9 rfl (fun hb9 => ?_) fun hb9 => ?_
   ·refine sm 3 rfl <| nUu rfl rfl rfl rfl rfl rfl <| nUu rfl rfl rfl rfl rfl rfl <| sm 7 rfl <| nL <| tRt <| rOk rfl ?_ nPo
    unfold z1s
    first | (simp_all; done) | (simp_all <;> omega)
   refine sm 3 rfl ?_
   refine wS 12 rfl (fun hb12 => ?_) fun hb12 => ?_
   ·refine sm 5 rfl ?_
    refine wS 17 rfl (fun hb17 => ?_) fun hb17 => ?_
    ·refine sm 4 rfl <| nL <| tRt <| rOk rfl ?_ nPo
     unfold z1s
     first | (simp_all; done) | (simp_all <;> omega)
    refine sm 4 rfl <| nL <| tRt <| rOk rfl ?_ nPo
    unfold z1s
    first | (simp_all; done) | (simp_all <;> omega)
   refine sm 9 rfl <| nL <| tRt <| rOk rfl ?_ nPo
   unfold z1s
   first | (simp_all; done) | (simp_all <;> omega)
  refine sm 7 rfl ?_
  refine wS 12 rfl (fun hb12 => ?_) fun hb12 => ?_
  ·refine sm 5 rfl ?_
   refine wS 17 rfl (fun hb17 => ?_) fun hb17 => ?_
   ·refine sm 4 rfl <| nL <| tRt <| rOk rfl ?_ nPo
    unfold z1s
    first | (simp_all; done) | (simp_all <;> omega)
   refine sm 4 rfl <| nL <| tRt <| rOk rfl ?_ nPo
   unfold z1s
   first | (simp_all; done) | (simp_all <;> omega)
  refine sm 9 rfl <| nL <| tRt <| rOk rfl ?_ nPo
  unfold z1s
  first | (simp_all; done) | (simp_all <;> omega)
theorem y3w (n : Int) : SC Tryz.prog 78 [.pv (vU8 n)] [] (fun _ => False) (iBool (z6k n)) [] := by
  refine SC.of Tryz.func78 rfl (lb rfl) fun F ρ w => ?_
  refine tQ <| tG <| sm 1 rfl <| nL <| tQ <| tG <| sm 3 rfl ?_
  refine wS 5 rfl (fun hb5 => ?_) fun hb5 => ?_
  ·refine sm 4 rfl <| nL <| tRt <| rOk rfl ?_ nPo
   unfold z6k
   first | (simp_all; done) | (simp_all <;> omega)
  refine sm 4 rfl <| nL <| tRt <| rOk rfl ?_ nPo
  unfold z6k
  first | (simp_all; done) | (simp_all <;> omega)
theorem y6d (s : ByteArray) : SC Tryz.prog 77 [iStr s] [] (fun _ => False) (iBool (z0i s)) [] := by
  refine SC.of Tryz.func77 rfl (lb rfl) fun F ρ w => ?_
  refine tQ <| tG <| sm 1 rfl <| nL <| tQ <| tQ <| tG <| sm 1 rfl <| nL <| tBk <| tQ <| tQ ?_
  refine tG <| cV rfl (bSt rfl rfl rfl rfl) <| sm 1 rfl <| nL ?_
  refine tC rfl (fun hc4 => ?_) fun hc4 => ?_
  ·refine tSk ?_
   refine tC rfl (fun hc4 => ?_) fun hc4 => ?_
   ·refine tQ <| tG <| sm 1 rfl <| nL <| tRt <| rOk rfl ?_ nPo
    refine congrArg (fun b => iBool b) ?_
    simp_all [z0i]
   refine tSk <| tQ <| tG <| sm 1 rfl <| nL <| tRt <| rOk rfl ?_ nPo
   refine congrArg (fun b => iBool b) ?_
   simp_all [z0i]
  refine tQ <| tG <| cV rfl (bSt rfl rfl rfl rfl) <| sm 1 rfl <| nL ?_
  refine tC rfl (fun hc4 => ?_) fun hc4 => ?_
  ·refine tSk ?_
   refine tC rfl (fun hc4 => ?_) fun hc4 => ?_
   ·refine tQ <| tG <| sm 1 rfl <| nL <| tRt <| rOk rfl ?_ nPo
    refine congrArg (fun b => iBool b) ?_
    simp_all [z0i]
   refine tSk <| tQ <| tG <| sm 1 rfl <| nL <| tRt <| rOk rfl ?_ nPo
   refine congrArg (fun b => iBool b) ?_
   simp_all [z0i]
  refine tQ <| tG <| cV rfl (bSt rfl rfl rfl rfl) <| sm 1 rfl <| nL ?_
  refine tC rfl (fun hc4 => ?_) fun hc4 => ?_
  ·refine tSk ?_
   refine tC rfl (fun hc4 => ?_) fun hc4 => ?_
   ·refine tQ <| tG <| sm 1 rfl <| nL <| tRt <| rOk rfl ?_ nPo
    refine congrArg (fun b => iBool b) ?_
    simp_all [z0i]
   refine tSk <| tQ <| tG <| sm 1 rfl <| nL <| tRt <| rOk rfl ?_ nPo
   refine congrArg (fun b => iBool b) ?_
   simp_all [z0i]
  refine tQ <| tG <| cV rfl (bSt rfl rfl rfl rfl) <| sm 1 rfl <| nL ?_
  refine tC rfl (fun hc4 => ?_) fun hc4 => ?_
  ·refine tSk ?_
   refine tC rfl (fun hc4 => ?_) fun hc4 => ?_
   ·refine tQ <| tG <| sm 1 rfl <| nL <| tRt <| rOk rfl ?_ nPo
    refine congrArg (fun b => iBool b) ?_
    simp_all [z0i]
   refine tSk <| tQ <| tG <| sm 1 rfl <| nL <| tRt <| rOk rfl ?_ nPo
   refine congrArg (fun b => iBool b) ?_
   simp_all [z0i]
  refine tQ <| tG <| cV rfl (bSt rfl rfl rfl rfl) <| sm 1 rfl <| nL ?_
  refine tC rfl (fun hc4 => ?_) fun hc4 => ?_
  ·refine tSk ?_
   refine tC rfl (fun hc4 => ?_) fun hc4 => ?_
   ·refine tQ <| tG <| sm 1 rfl <| nL <| tRt <| rOk rfl ?_ nPo
    refine congrArg (fun b => iBool b) ?_
    simp_all [z0i]
   refine tSk <| tQ <| tG <| sm 1 rfl <| nL <| tRt <| rOk rfl ?_ nPo
   refine congrArg (fun b => iBool b) ?_
   simp_all [z0i]
  refine tQ <| tG <| cV rfl (bSt rfl rfl rfl rfl) <| sm 1 rfl <| nL ?_
  refine tC rfl (fun hc4 => ?_) fun hc4 => ?_
  ·refine tSk ?_
   refine tC rfl (fun hc4 => ?_) fun hc4 => ?_
   ·refine tQ <| tG <| sm 1 rfl <| nL <| tRt <| rOk rfl ?_ nPo
    refine congrArg (fun b => iBool b) ?_
    simp_all [z0i]
   refine tSk <| tQ <| tG <| sm 1 rfl <| nL <| tRt <| rOk rfl ?_ nPo
   refine congrArg (fun b => iBool b) ?_
   simp_all [z0i]
  refine tQ <| tG <| cV rfl (bSt rfl rfl rfl rfl) <| sm 1 rfl <| nL ?_
  refine tC rfl (fun hc4 => ?_) fun hc4 => ?_
  ·refine tSk ?_
   refine tC rfl (fun hc4 => ?_) fun hc4 => ?_
   ·refine tQ <| tG <| sm 1 rfl <| nL <| tRt <| rOk rfl ?_ nPo
    refine congrArg (fun b => iBool b) ?_
    simp_all [z0i]
   refine tSk <| tQ <| tG <| sm 1 rfl <| nL <| tRt <| rOk rfl ?_ nPo
   refine congrArg (fun b => iBool b) ?_
   simp_all [z0i]
  refine tQ <| tG <| cV rfl (bSt rfl rfl rfl rfl) <| sm 1 rfl <| nL ?_
  refine tC rfl (fun hc4 => ?_) fun hc4 => ?_
  ·refine tSk ?_
   refine tC rfl (fun hc4 => ?_) fun hc4 => ?_
   ·refine tQ <| tG <| sm 1 rfl <| nL <| tRt <| rOk rfl ?_ nPo
    refine congrArg (fun b => iBool b) ?_
    simp_all [z0i]
   refine tSk <| tQ <| tG <| sm 1 rfl <| nL <| tRt <| rOk rfl ?_ nPo
   refine congrArg (fun b => iBool b) ?_
   simp_all [z0i]
  refine tQ <| tG <| cV rfl (bSt rfl rfl rfl rfl) <| sm 1 rfl <| nL ?_
  refine tC rfl (fun hc4 => ?_) fun hc4 => ?_
  ·refine tSk ?_
   refine tC rfl (fun hc4 => ?_) fun hc4 => ?_
   ·refine tQ <| tG <| sm 1 rfl <| nL <| tRt <| rOk rfl ?_ nPo
    refine congrArg (fun b => iBool b) ?_
    simp_all [z0i]
   refine tSk <| tQ <| tG <| sm 1 rfl <| nL <| tRt <| rOk rfl ?_ nPo
   refine congrArg (fun b => iBool b) ?_
   simp_all [z0i]
  refine tQ <| tG <| cV rfl (bSt rfl rfl rfl rfl) <| sm 1 rfl <| nL ?_
  refine tC rfl (fun hc4 => ?_) fun hc4 => ?_
  ·refine tSk ?_
   refine tC rfl (fun hc4 => ?_) fun hc4 => ?_
   ·refine tQ <| tG <| sm 1 rfl <| nL <| tRt <| rOk rfl ?_ nPo
    refine congrArg (fun b => iBool b) ?_
    simp_all [z0i]
   refine tSk <| tQ <| tG <| sm 1 rfl <| nL <| tRt <| rOk rfl ?_ nPo
   refine congrArg (fun b => iBool b) ?_
   simp_all [z0i]
  refine tQ <| tG <| cV rfl (bSt rfl rfl rfl rfl) <| sm 1 rfl <| nL ?_
  refine tC rfl (fun hc4 => ?_) fun hc4 => ?_
  ·refine tSk ?_
   refine tC rfl (fun hc4 => ?_) fun hc4 => ?_
   ·refine tQ <| tG <| sm 1 rfl <| nL <| tRt <| rOk rfl ?_ nPo
    refine congrArg (fun b => iBool b) ?_
    simp_all [z0i]
   refine tSk <| tQ <| tG <| sm 1 rfl <| nL <| tRt <| rOk rfl ?_ nPo
   refine congrArg (fun b => iBool b) ?_
   simp_all [z0i]
  refine tQ <| tG <| cV rfl (bSt rfl rfl rfl rfl) <| sm 1 rfl <| nL ?_
  refine tC rfl (fun hc4 => ?_) fun hc4 => ?_
  ·refine tSk ?_
   refine tC rfl (fun hc4 => ?_) fun hc4 => ?_
   ·refine tQ <| tG <| sm 1 rfl <| nL <| tRt <| rOk rfl ?_ nPo
    refine congrArg (fun b => iBool b) ?_
    simp_all [z0i]
   refine tSk <| tQ <| tG <| sm 1 rfl <| nL <| tRt <| rOk rfl ?_ nPo
   refine congrArg (fun b => iBool b) ?_
   simp_all [z0i]
  refine tQ <| tG <| cV rfl (bSt rfl rfl rfl rfl) <| sm 1 rfl <| nL ?_
  refine tC rfl (fun hc4 => ?_) fun hc4 => ?_
  ·refine tSk ?_
   refine tC rfl (fun hc4 => ?_) fun hc4 => ?_
   ·refine tQ <| tG <| sm 1 rfl <| nL <| tRt <| rOk rfl ?_ nPo
    refine congrArg (fun b => iBool b) ?_
    simp_all [z0i]
   refine tSk <| tQ <| tG <| sm 1 rfl <| nL <| tRt <| rOk rfl ?_ nPo
   refine congrArg (fun b => iBool b) ?_
   simp_all [z0i]
  refine tQ <| tG <| cV rfl (bSt rfl rfl rfl rfl) <| sm 1 rfl <| nL ?_
  refine tC rfl (fun hc4 => ?_) fun hc4 => ?_
  ·refine tSk ?_
   refine tC rfl (fun hc4 => ?_) fun hc4 => ?_
   ·refine tQ <| tG <| sm 1 rfl <| nL <| tRt <| rOk rfl ?_ nPo
    refine congrArg (fun b => iBool b) ?_
    simp_all [z0i]
   refine tSk <| tQ <| tG <| sm 1 rfl <| nL <| tRt <| rOk rfl ?_ nPo
   refine congrArg (fun b => iBool b) ?_
   simp_all [z0i]
  refine tQ <| tG <| cV rfl (bSt rfl rfl rfl rfl) <| sm 1 rfl <| nL ?_
  refine tC rfl (fun hc4 => ?_) fun hc4 => ?_
  ·refine tSk ?_
   refine tC rfl (fun hc4 => ?_) fun hc4 => ?_
   ·refine tQ <| tG <| sm 1 rfl <| nL <| tRt <| rOk rfl ?_ nPo
    refine congrArg (fun b => iBool b) ?_
    simp_all [z0i]
   refine tSk <| tQ <| tG <| sm 1 rfl <| nL <| tRt <| rOk rfl ?_ nPo
   refine congrArg (fun b => iBool b) ?_
   simp_all [z0i]
  refine tQ <| tG <| cV rfl (bSt rfl rfl rfl rfl) <| sm 1 rfl <| nL ?_
  refine tC rfl (fun hc4 => ?_) fun hc4 => ?_
  ·refine tSk ?_
   refine tC rfl (fun hc4 => ?_) fun hc4 => ?_
   ·refine tQ <| tG <| sm 1 rfl <| nL <| tRt <| rOk rfl ?_ nPo
    refine congrArg (fun b => iBool b) ?_
    simp_all [z0i]
   refine tSk <| tQ <| tG <| sm 1 rfl <| nL <| tRt <| rOk rfl ?_ nPo
   refine congrArg (fun b => iBool b) ?_
   simp_all [z0i]
  refine tQ <| tG <| cV rfl (bSt rfl rfl rfl rfl) <| sm 1 rfl <| nL ?_
  refine tC rfl (fun hc4 => ?_) fun hc4 => ?_
  ·refine tSk ?_
   refine tC rfl (fun hc4 => ?_) fun hc4 => ?_
   ·refine tQ <| tG <| sm 1 rfl <| nL <| tRt <| rOk rfl ?_ nPo
    refine congrArg (fun b => iBool b) ?_
    simp_all [z0i]
   refine tSk <| tQ <| tG <| sm 1 rfl <| nL <| tRt <| rOk rfl ?_ nPo
   refine congrArg (fun b => iBool b) ?_
   simp_all [z0i]
  refine tG <| cV rfl (bSt rfl rfl rfl rfl) <| sm 1 rfl <| nL ?_
  refine tC rfl (fun hc4 => ?_) fun hc4 => ?_
  ·refine tQ <| tG <| sm 1 rfl <| nL <| tRt <| rOk rfl ?_ nPo
   refine congrArg (fun b => iBool b) ?_
   simp_all [z0i]
  refine tSk <| tQ <| tG <| sm 1 rfl <| nL <| tRt <| rOk rfl ?_ nPo
  refine congrArg (fun b => iBool b) ?_
  simp_all [z0i]
theorem zy2 (s : ByteArray) : SC Tryz.prog 50 [iStr s] [] (fun _ => False) (iBool (z4c s)) [] := by
  refine SC.of Tryz.func50 rfl (lb rfl) fun F ρ w => ?_
  have hsz : s.size <= 9223372036854775807 ∨ 9223372036854775807 < s.size := by omega
  refine tQ <| tG <| sm 1 rfl <| nL <| tQ <| tQ <| tG <| sm 1 rfl <| cV rfl (bSt rfl rfl rfl rfl) <| sm 1 rfl ?_
  refine wS 6 rfl (fun hb6 => ?_) fun hb6 => ?_
  ·refine sm 14 rfl <| nL <| Tr.condT rfl <| tQ <| tG <| sm 1 rfl <| nL <| tRt <| rOk rfl ?_ nPo
   refine congrArg (fun b => iBool b) ?_
   simp_all [z4c]
  have hne : s.toList ≠ [] := by simpa using hb6
  obtain ⟨b0, r0, hs0⟩ := List.exists_cons_of_ne_nil hne
  have hi0 : s[0]? = some b0 := by rw [y1r (i := 0) (by rw [hs0]; simp)]; simp [hs0]
  refine sm 1 rfl <| yV rfl rfl (z46 rfl rfl uT9) <| sm 3 rfl ?_
  refine wS 11 rfl (fun hb11 => ?_) fun hb11 => ?_
  ·refine sm 9 rfl <| nL <| Tr.condT rfl <| tQ <| tG <| sm 1 rfl <| nL <| tRt <| rOk rfl ?_ nPo
   refine congrArg (fun b => iBool b) ?_
   (have h20 : ¬ ((s.size : Int) <= 20) := by simp at hb11; omega
    simp [z4c, h20]; done)
  refine sm 1 rfl <| yV rfl rfl (z4f rfl rfl rfl uT9 (by assumption) (by rfl)) <| WL.yes rfl rfl rfl rfl rfl rfl (z1f (zj3 _) ent76 rfl rfl (sRf _ _) rfl) <| sm 3 rfl ?_
  refine wS 17 rfl (fun hb17 => ?_) fun hb17 => ?_
  ·refine sm 3 rfl <| nL <| Tr.condT rfl <| tQ <| tG <| sm 1 rfl <| nL <| tRt <| rOk rfl ?_ nPo
   refine congrArg (fun b => iBool b) ?_
   simp_all [z4c]
  refine sm 1 rfl <| WL.yes rfl rfl rfl rfl rfl rfl (z1f (y6d _) ent77 rfl rfl (sRf _ _) rfl) <| sm 1 rfl <| nL ?_
  refine tC rfl (fun hc20 => ?_) fun hc20 => ?_
  ·refine tQ <| tG <| sm 1 rfl <| nL <| tRt <| rOk rfl ?_ nPo
   refine congrArg (fun b => iBool b) ?_
   simp_all [z4c]
  refine tSk <| tQ <| tQ <| tG <| sm 1 rfl <| nL <| tBk <| Tr.sub (Sub.of (fr' := [(3, iInt 0), (0, iStr s)]) ⟨rfl, rfl, trivial⟩) ?_
  refine Tr.loop (fun fr σ m => ∃ (k : Nat), (k <= s.toList.length) /\ (s.toList.all isLD = (s.toList.drop k).all isLD) /\ fr = [(3, iInt k), (0, iStr s)] /\ σ = look [] /\ m = s.toList.length - k) (n := s.toList.length - 0) ?_ ?_
  ·exact ⟨0, Nat.zero_le _, rfl, rfl, rfl, rfl⟩
  rintro fr σ m ⟨k, hI0, hI1, rfl, rfl, rfl⟩
  refine tQ <| tQ <| tG <| sm 2 rfl <| cV rfl (z46 rfl rfl uT9) <| sm 1 rfl <| nL ?_
  refine tC rfl (fun hc24 => ?_) fun hc24 => ?_
  ·have hlt : k < s.toList.length := by rw [z8c]; simpa using hc24
   have hd := List.drop_eq_getElem_cons hlt
   have hi := y1r hlt
   generalize s.toList[k] = b at hd hi
   have hl20 : s.toList.length <= 20 := by rw [z8c]; simp at hb11; omega
   refine tSk <| tQ <| tBk <| tQ <| tG <| sm 2 rfl <| cV rfl (z4f rfl rfl rfl uT9 (by assumption) (by rfl)) <| cE rfl (ocq (zj3 _) ent76 rfl rfl) <| sm 2 rfl ?_
   refine wS 32 rfl (fun hb32 => ?_) fun hb32 => ?_
   ·refine sm 2 rfl <| yV rfl rfl (z4f rfl rfl rfl uT9 (by assumption) (by rfl)) <| WL.yes rfl rfl rfl rfl rfl rfl (z1f (y3w _) ent78 rfl rfl (sRf _ _) rfl) <| sm 2 rfl <| nL ?_
    refine tC rfl (fun hc38 => ?_) fun hc38 => ?_
    ·refine tQ <| tG <| sm 1 rfl <| nL <| tRt <| rOk rfl ?_ nPo
     have hb : isLD b = false := by simp_all [isLD]
     have hall : s.toList.all isLD = false := by rw [hI1, hd]; simp [hb]
     simp [z4c, hall]
    refine tSk <| tG <| sm 1 rfl <| cV rfl (oB rfl rfl (z03 rfl oM0)) <| sm 1 rfl <| nL ?_
    refine ⟨_, _, ?_, Sub.of (fr' := [(3, iInt (k + 1)), (0, iStr s)]) ⟨rfl, rfl, trivial⟩, (k + 1), ?_, ?_, rfl, rfl, rfl⟩
    ·omega
    ·omega
    have hb : isLD b = true := by simp_all [isLD]
    rw [hI1, hd]; simp [hb]
   refine sm 6 rfl <| nL <| Tr.condF rfl <| tSk <| tG <| sm 1 rfl <| cV rfl (oB rfl rfl (z03 rfl oM0)) <| sm 1 rfl <| nL ?_
   refine ⟨_, _, ?_, Sub.of (fr' := [(3, iInt (k + 1)), (0, iStr s)]) ⟨rfl, rfl, trivial⟩, (k + 1), ?_, ?_, rfl, rfl, rfl⟩
   ·omega
   ·omega
   have hb : isLD b = true := by simp_all [isLD]
   rw [hI1, hd]; simp [hb]
  refine tEx <| tQ <| tG <| sm 1 rfl <| nL <| tRt <| rOk rfl ?_ nPo
  have hge : s.toList.length <= k := by rw [z8c]; simpa using hc24
  have hall : s.toList.all isLD = true := by rw [hI1, List.drop_eq_nil_of_le hge]; rfl
  refine congrArg (fun b => iBool b) ?_
  simp_all [z4c]
theorem z4y (a b : List Int) : SC Tryz.prog 27 [.pv (ints a), .pv (ints b)] [] (fun _ => False) (iBool (a == b)) [] := by
  refine SC.of Tryz.func27 rfl (lb rfl) fun F ρ w => ?_
  refine Tr.lenOf (t := 0) rfl (fun hl => ?_)
  simp only [List.length_map] at hl
  refine Tr.lenOf (t := 1) rfl (fun hl2 => ?_)
  simp only [List.length_map] at hl2
  refine tQ <| tG <| sm 1 rfl <| nL <| tQ <| tQ <| tG <| sm 1 rfl <| cV rfl (oSm uT35 rfl) <| sm 1 rfl <| cV rfl (oSm uT35 rfl) <| sm 1 rfl ?_
  refine nL ?_
  refine tC rfl (fun hc10 => ?_) fun hc10 => ?_
  ·refine tQ <| tG <| sm 1 rfl <| nL <| tRt <| rOk rfl ?_ nPo
   have hne : a ≠ b := by intro h; subst h; simp at hc10
   simp [hne]
  have hlen : a.length = b.length := by simp at hc10; omega
  refine tSk <| tQ <| tQ <| tG <| sm 1 rfl <| nL <| tBk <| Tr.sub (Sub.of (fr' := [(5, iInt 0), (0, .pv (ints a)), (1, .pv (ints b))]) ⟨rfl, rfl, rfl, trivial⟩) ?_
  refine Tr.loop (fun fr σ m => ∃ (k : Nat), (k <= a.length) /\ ((a == b) = (a.drop k == b.drop k)) /\ fr = [(5, iInt k), (0, .pv (ints a)), (1, .pv (ints b))] /\ σ = look [] /\ m = a.length - k) (n := a.length - 0) ?_ ?_
  ·exact ⟨0, Nat.zero_le _, rfl, rfl, rfl, rfl⟩
  rintro fr σ m ⟨k, hI0, hI1, rfl, rfl, rfl⟩
  refine tQ <| tQ <| tG <| sm 2 rfl <| cV rfl (oSm uT35 rfl) <| sm 1 rfl <| nL ?_
  refine tC rfl (fun hc14 => ?_) fun hc14 => ?_
  ·have hlt : k < a.length := by simpa using hc14
   have hd := List.drop_eq_getElem_cons hlt
   have hm := List.getElem_mem hlt
   have hi := z0a (f := eInt) (List.getElem?_eq_getElem hlt)
   generalize a[k] = x at hd hm hi
   have hltw : k < b.length := by omega
   have hdw := List.drop_eq_getElem_cons hltw
   have hw := z0a (f := eInt) (List.getElem?_eq_getElem hltw)
   generalize b[k] = y at hdw hw
   refine tSk <| tQ <| tBk <| tQ <| Tr.still z1b kR0 rfl <| smS 2 rfl <| sV rfl (iSq rfl rfl rfl uT35 hi tS3 rfl (by rfl)) <| smS 3 rfl <| sV rfl (iSq rfl rfl rfl uT35 hw tS3 rfl (by rfl)) <| smS 2 rfl <| WS.nil ?_
   refine tC rfl (fun hc25 => ?_) fun hc25 => ?_
   ·refine tQ <| tG <| sm 1 rfl <| nL <| tRt <| rOk rfl ?_ nPo
    have hxy : x ≠ y := by simpa using hc25
    rw [hI1, hd, hdw]
    simp [hxy]
   refine tSk <| tG <| sm 1 rfl <| cV rfl (oB rfl rfl (z03 rfl oM0)) <| sm 1 rfl <| nL ?_
   refine ⟨_, _, ?_, Sub.of (fr' := [(5, iInt (k + 1)), (0, .pv (ints a)), (1, .pv (ints b))]) ⟨rfl, rfl, rfl, trivial⟩, (k + 1), ?_, ?_, rfl, rfl, rfl⟩
   ·omega
   ·omega
   rw [hI1, hd, hdw]
   have : x = y := by simpa using hc25
   simp [this]
  refine tEx <| tQ <| tG <| sm 1 rfl <| nL <| tRt <| rOk rfl ?_ nPo
  have hge : a.length <= k := by simpa using hc14
  rw [hI1, List.drop_eq_nil_of_le hge, List.drop_eq_nil_of_le oM0]
  rfl
theorem zl9 (N : Nat) : ∀ (l : List Nd) (hb : z17 l <= 4611686018427387904), SizeOf.sizeOf l < N -> SC Tryz.prog 18 [.pv (z09 l)] [] (fun _ => False) (iInt (z17 l)) [] := by
  induction N with
  | zero => intro l hb hN; exact absurd hN (Nat.not_lt_zero _)
  | succ N ih =>
    intro l hb hN
    refine SC.of Tryz.func18 rfl (lb rfl) fun F ρ w => ?_
    refine Tr.lenOf (t := 0) rfl (fun hl => ?_)
    simp only [List.length_map] at hl
    refine tQ <| tG <| sm 1 rfl <| nL <| tQ <| tG <| sm 1 rfl <| cV rfl (oSm uT43 rfl) <| sm 1 rfl <| nL <| tQ <| tQ ?_
    refine tG <| sm 1 rfl <| nL <| tBk <| Tr.sub (Sub.of (fr' := [(4, iInt 0), (3, iInt l.length), (0, .pv (z09 l))]) ⟨rfl, rfl, rfl, trivial⟩) ?_
    refine Tr.loop (fun fr σ m => ∃ (k : Nat) (n : Nat), (k <= l.length) /\ (n + wtL (l.drop k) = z17 l) /\ fr = [(4, iInt k), (3, iInt n), (0, .pv (z09 l))] /\ σ = look [] /\ m = l.length - k) (n := l.length - 0) ?_ ?_
    ·exact ⟨0, l.length, Nat.zero_le _, rfl, rfl, rfl, rfl⟩
    rintro fr σ m ⟨k, n, hI0, hI1, rfl, rfl, rfl⟩
    refine tQ <| tQ <| tG <| sm 2 rfl <| cV rfl (oSm uT43 rfl) <| sm 1 rfl <| nL ?_
    refine tC rfl (fun hc11 => ?_) fun hc11 => ?_
    ·have hlt : k < l.length := by simpa using hc11
     have hd := List.drop_eq_getElem_cons hlt
     have hm := List.getElem_mem hlt
     have hi := z0p (List.getElem?_eq_getElem hlt)
     generalize l[k] = x at hd hm hi
     have hstep : wtL (x :: l.drop (k + 1)) = wtN x + wtL (l.drop (k + 1)) := rfl
     have hx := y2m x
     rw [hd, hstep, hx] at hI1
     refine tSk <| tQ <| tBk <| tQ <| Tr.still z1b kR0 rfl <| smS 3 rfl <| sV rfl (iSq rfl rfl rfl uT43 (by assumption) tS42 rfl (by rfl)) <| smS 2 rfl <| sV rfl (oSm uT35 rfl) <| sV rfl (oB rfl rfl (z03 rfl oM0)) <| smS 2 rfl <| sV rfl (iSq rfl rfl rfl uT43 (by assumption) tS42 rfl (by rfl)) ?_
     refine smS 2 rfl <| sV rfl (oSm uT35 rfl) <| sV rfl (oB rfl rfl (z03 rfl oM0)) <| smS 2 rfl <| sV rfl (iSq rfl rfl rfl uT43 (by assumption) tS42 rfl (by rfl)) <| smS 2 rfl <| sV rfl (oSm uT35 rfl) <| sV rfl (oB rfl rfl (z03 rfl oM0)) <| smS 2 rfl <| sV rfl (iSq rfl rfl rfl uT43 (by assumption) tS42 rfl (by rfl)) <| smS 2 rfl <| sV rfl (z46 rfl rfl uT9) ?_
     refine sV rfl (oB rfl rfl (z03 rfl oM0)) <| smS 1 rfl <| WS.nil <| tQ <| tG <| sm 1 rfl <| nL <| tBk ?_
     have hstart : n + x.args.length + x.outs.length + x.params.length + x.name.size + wtK (x.kids.drop 0) + wtL (l.drop (k + 1)) = z17 l := by rw [List.drop_zero]; omega
     refine Tr.sub (Sub.of (fr' := [(5, iInt 0), (4, iInt k), (3, iInt (n + x.args.length + x.outs.length + x.params.length + x.name.size)), (0, .pv (z09 l))]) ⟨rfl, rfl, congrArg (fun z => some (iInt z)) (by rfl), rfl, trivial⟩) ?_
     refine Tr.loop (fun fr σ m => ∃ (i : Nat) (acc : Nat), (i <= x.kids.length) /\ (acc + wtK (x.kids.drop i) + wtL (l.drop (k + 1)) = z17 l) /\ fr = [(5, iInt i), (4, iInt k), (3, iInt acc), (0, .pv (z09 l))] /\ σ = look [] /\ m = x.kids.length - i) (n := x.kids.length - 0) ?_ ?_
     ·exact ⟨0, (n + x.args.length + x.outs.length + x.params.length + x.name.size), Nat.zero_le _, hstart, rfl, rfl, rfl⟩
     rintro fr σ m ⟨i, acc, hJ0, hJ1, rfl, rfl, rfl⟩
     refine tQ <| tQ <| tG <| sm 3 rfl <| cV rfl (iSq rfl rfl rfl uT43 (by assumption) tS42 rfl (by rfl)) <| sm 2 rfl ?_
     refine WL.lenOf (t := 48) rfl (fun hl2 => ?_)
     simp only [List.length_map] at hl2
     refine cV rfl (oSm uT40 rfl) <| sm 1 rfl <| nL ?_
     refine tC rfl (fun hc50 => ?_) fun hc50 => ?_
     ·have hlt2 : i < x.kids.length := by simpa using hc50
      have hd2 := List.drop_eq_getElem_cons hlt2
      have hm2 := List.getElem_mem hlt2
      have hi2 := z0a (f := eKid) (List.getElem?_eq_getElem hlt2)
      generalize x.kids[i] = q at hd2 hm2 hi2
      have hdec : SizeOf.sizeOf q < N := Nat.lt_of_lt_of_le (z4s hm rfl hm2) (Nat.le_of_lt_succ hN)
      have hJ1' := hJ1
      rw [hd2, show wtK (q :: x.kids.drop (i + 1)) = 1 + (q.length + wtL q) + wtK (x.kids.drop (i + 1)) from rfl] at hJ1'
      have hqq : z17 q = q.length + wtL q := rfl
      have hbq : z17 q <= 4611686018427387904 := by unfold z17 at *; omega
      refine tSk <| tQ <| tBk <| tG <| sm 1 rfl <| cV rfl (oB rfl rfl (z03 rfl oM0)) <| sm 2 rfl <| cV rfl (iSq rfl rfl rfl uT43 (by assumption) tS42 rfl (by rfl)) <| sm 3 rfl <| cV rfl (iSq rfl rfl rfl uT40 (by assumption) tS43 rfl (by rfl)) <| sm 1 rfl <| cE rfl (ocq (ih q hbq hdec) ent18 rfl rfl) ?_
      refine cV rfl (oB rfl rfl (z03 rfl oM0)) <| sm 1 rfl <| nL <| tG <| sm 1 rfl <| cV rfl (oB rfl rfl (z03 rfl oM0)) <| sm 1 rfl <| nL ?_
      refine ⟨_, _, ?_, Sub.of (fr' := [(5, iInt (i + 1)), (4, iInt k), (3, iInt (acc + 1 + z17 q)), (0, .pv (z09 l))]) ⟨rfl, rfl, congrArg (fun z => some (iInt z)) (by rfl), rfl, trivial⟩, (i + 1), (acc + 1 + z17 q), ?_, ?_, rfl, rfl, rfl⟩
      ·omega
      ·omega
      have hq : wtK (q :: x.kids.drop (i + 1)) = 1 + (q.length + wtL q) + wtK (x.kids.drop (i + 1)) := rfl
      rw [hd2, hq] at hJ1
      unfold z17 at *
      omega
     refine tEx <| tG <| sm 1 rfl <| cV rfl (oB rfl rfl (z03 rfl oM0)) <| sm 1 rfl <| nL ?_
     refine ⟨_, _, ?_, Sub.of (fr' := [(4, iInt (k + 1)), (3, iInt acc), (0, .pv (z09 l))]) ⟨rfl, rfl, rfl, trivial⟩, (k + 1), acc, ?_, ?_, rfl, rfl, rfl⟩
     ·omega
     ·omega
     have hz : wtK (x.kids.drop i) = 0 := by rw [List.drop_eq_nil_of_le (by simpa using hc50)]; rfl
     omega
    refine tEx <| tQ <| tG <| sm 2 rfl <| nL <| tRt <| rOk rfl ?_ nPo
    have hge : l.length <= k := by simpa using hc11
    rw [List.drop_eq_nil_of_le hge] at hI1
    simp only [wtL, Nat.add_zero] at hI1
    rw [<- hI1]
theorem y3x (l : List Nd) (hb : z17 l <= 4611686018427387904) : SC Tryz.prog 18 [.pv (z09 l)] [] (fun _ => False) (iInt (z17 l)) [] := zl9 _ l hb (Nat.lt_succ_self _)
theorem z9m (N : Nat) : ∀ (a b : List Nd), SizeOf.sizeOf a < N -> SC Tryz.prog 28 [.pv (z09 a), .pv (z09 b)] [] (fun _ => False) (iBool (z4k a b)) [] := by
  induction N with
  | zero => intro a b hN; exact absurd hN (Nat.not_lt_zero _)
  | succ N ih =>
    intro a b hN
    refine SC.of Tryz.func28 rfl (lb rfl) fun F ρ w => ?_
    refine Tr.lenOf (t := 0) rfl (fun hl => ?_)
    simp only [List.length_map] at hl
    refine Tr.lenOf (t := 1) rfl (fun hl2 => ?_)
    simp only [List.length_map] at hl2
    refine tQ <| tG <| sm 1 rfl <| nL <| tQ <| tQ <| tG <| sm 1 rfl <| cV rfl (oSm uT43 rfl) <| sm 1 rfl <| cV rfl (oSm uT43 rfl) <| sm 1 rfl ?_
    refine nL ?_
    refine tC rfl (fun hc13 => ?_) fun hc13 => ?_
    ·refine tQ <| tG <| sm 1 rfl <| nL <| tRt <| rOk rfl ?_ nPo
     rw [zy1 (by intro h; simp [h] at hc13)]
    have hlen : a.length = b.length := by simp at hc13; omega
    refine tSk <| tQ <| tQ <| tG <| sm 1 rfl <| nL <| tBk <| Tr.sub (Sub.of (fr' := [(5, iInt 0), (0, .pv (z09 a)), (1, .pv (z09 b))]) ⟨rfl, rfl, rfl, trivial⟩) ?_
    refine Tr.loop (fun fr σ m => ∃ (k : Nat), (k <= a.length) /\ (z4k a b = z4k (a.drop k) (b.drop k)) /\ fr = [(5, iInt k), (0, .pv (z09 a)), (1, .pv (z09 b))] /\ σ = look [] /\ m = a.length - k) (n := a.length - 0) ?_ ?_
    ·exact ⟨0, Nat.zero_le _, rfl, rfl, rfl, rfl⟩
    rintro fr σ m ⟨k, hI0, hI1, rfl, rfl, rfl⟩
    refine tQ <| tQ <| tG <| sm 2 rfl <| cV rfl (oSm uT43 rfl) <| sm 1 rfl <| nL ?_
    refine tC rfl (fun hc17 => ?_) fun hc17 => ?_
    ·have hlt : k < a.length := by simpa using hc17
     have hd := List.drop_eq_getElem_cons hlt
     have hm := List.getElem_mem hlt
     have hi := z0p (List.getElem?_eq_getElem hlt)
     generalize a[k] = x at hd hm hi
     have hltw : k < b.length := by omega
     have hdw := List.drop_eq_getElem_cons hltw
     have hw := z0p (List.getElem?_eq_getElem hltw)
     generalize b[k] = y at hdw hw
     refine tSk <| tQ <| tBk <| tQ ?_
     refine Tr.cut (fr' := [(7, .ptr 107 0), (6, .ptr 106 0), (5, iInt k), (0, .pv (z09 a)), (1, .pv (z09 b))]) (σ' := look [(106, some (.box [iInt x.kind, iInt x.op, iInt x.n, iStr x.name, .pv (ints x.args), .pv (ints x.outs), .pv (ints x.params), .pv (kids x.kids)])), (107, some (.box [iInt y.kind, iInt y.op, iInt y.n, iStr y.name, .pv (ints y.args), .pv (ints y.outs), .pv (ints y.params), .pv (kids y.kids)]))]) ?_ ?_
     ·refine tDr z1b (fun k => k ∈ ([] : List Nat)) <| wR 4 [0, 1, 2, 3, 4, 5, 6, 7] kR0 (fun _ _ _ h => pn h.1) <| smR 2 rfl <| rV rfl rfl (iSq rfl rfl rfl uT43 hi tS42 rfl (by rfl)) <| rV rfl rfl (lEA rfl rfl uT42 rfl tS42 (lb rfl)) <| smR 2 rfl <| rV rfl rfl (iSq rfl rfl rfl uT43 hw tS42 rfl (by rfl)) <| rV rfl rfl (lEA rfl rfl uT42 rfl tS42 (lb rfl)) <| nR <| WA.all (rs := [8, 9]) kR0 sI0 ?_
      refine fmc ⟨?_, fmc ⟨?_, by simp⟩⟩
      ·refine wI rfl rfl nf (z11 rfl) (fun _ _ => aLc (k := 106) rfl tZ42 rfl rfl rfl rfl) <| wO 9 kR0 <| wI rfl rfl nf (z11 rfl) (fun _ _ => aLc (k := 107) rfl tZ42 rfl rfl rfl rfl) <| wO 10 kR0 <| wI rfl rfl nf (nOl rfl) (fun _ _ => sBA rfl rfl rfl rfl rfl sI0 tS42 (flk rfl) (lb rfl)) <| wO 11 kR0 <| wI rfl rfl nf (nOl rfl) (fun _ _ => sBA rfl rfl rfl rfl rfl sI0 tS42 (flk rfl) (lb rfl)) <| wDn kR0 ?_
       refine ⟨rfl, Sub.of ⟨rfl, rfl, rfl, rfl, rfl, trivial⟩, ?_⟩
       exact z7z rfl rfl (fun k h1 h2 => by simp [look, z02 (Ne.symm h1), z02 (Ne.symm h2)]) dC0
      refine wI rfl rfl nf (z11 rfl) (fun _ _ => aLc (k := 107) rfl tZ42 rfl rfl rfl rfl) <| wO 8 kR0 <| wI rfl rfl nf (z11 rfl) (fun _ _ => aLc (k := 106) rfl tZ42 rfl rfl rfl rfl) <| wO 10 kR0 <| wI rfl rfl nf (nOl rfl) (fun _ _ => sBA rfl rfl rfl rfl rfl sI0 tS42 (flk rfl) (lb rfl)) <| wO 11 kR0 <| wI rfl rfl nf (nOl rfl) (fun _ _ => sBA rfl rfl rfl rfl rfl sI0 tS42 (flk rfl) (lb rfl)) <| wDn kR0 ?_
      refine ⟨rfl, Sub.of ⟨rfl, rfl, rfl, rfl, rfl, trivial⟩, ?_⟩
      exact z7z rfl rfl (fun k h1 h2 => by simp [look, z02 (Ne.symm h1), z02 (Ne.symm h2)]) dC0
     refine Tr.freezeBox (t := 6) (k := 106) rfl rfl rfl <| Tr.freezeBox (t := 7) (k := 107) rfl rfl rfl <| Tr.heap (σ' := look []) (fun k => by simp only [look]; cases Nat.beq 107 k <;> cases Nat.beq 106 k <;> rfl) <| tQ <| tQ <| tG <| sm 6 rfl ?_
     refine wS 33 rfl (fun hb33 => ?_) fun hb33 => ?_
     ·refine sm 53 rfl <| nL <| Tr.condT rfl <| tQ <| tG <| sm 1 rfl <| nL <| tRt <| rOk rfl ?_ nPo
      have hsh : z65 x y = false := by
        clear hd hdw hm hi hw hI1
        simp_all [z65]
      rw [hI1, hd, hdw]
      simp [z4k, z4x, hsh]
     refine sm 7 rfl ?_
     refine wS 40 rfl (fun hb40 => ?_) fun hb40 => ?_
     ·refine sm 46 rfl <| nL <| Tr.condT rfl <| tQ <| tG <| sm 1 rfl <| nL <| tRt <| rOk rfl ?_ nPo
      have hsh : z65 x y = false := by
        clear hd hdw hm hi hw hI1
        simp_all [z65]
      rw [hI1, hd, hdw]
      simp [z4k, z4x, hsh]
     refine sm 7 rfl ?_
     refine wS 47 rfl (fun hb47 => ?_) fun hb47 => ?_
     ·refine sm 39 rfl <| nL <| Tr.condT rfl <| tQ <| tG <| sm 1 rfl <| nL <| tRt <| rOk rfl ?_ nPo
      have hsh : z65 x y = false := by
        clear hd hdw hm hi hw hI1
        simp_all [z65]
      rw [hI1, hd, hdw]
      simp [z4k, z4x, hsh]
     refine sm 4 rfl <| yV rfl rfl (bSt rfl rfl rfl rfl) <| sm 2 rfl ?_
     refine wS 54 rfl (fun hb54 => ?_) fun hb54 => ?_
     ·refine sm 32 rfl <| nL <| Tr.condT rfl <| tQ <| tG <| sm 1 rfl <| nL <| tRt <| rOk rfl ?_ nPo
      have hsh : z65 x y = false := by
        clear hd hdw hm hi hw hI1
        simp_all [z65]
      rw [hI1, hd, hdw]
      simp [z4k, z4x, hsh]
     refine sm 2 rfl <| yV rfl rfl (oSm uT40 rfl) <| sm 2 rfl <| yV rfl rfl (oSm uT40 rfl) <| sm 3 rfl ?_
     refine wS 63 rfl (fun hb63 => ?_) fun hb63 => ?_
     ·refine sm 23 rfl <| nL <| Tr.condT rfl <| tQ <| tG <| sm 1 rfl <| nL <| tRt <| rOk rfl ?_ nPo
      have hsh : z65 x y = false := by
        clear hd hdw hm hi hw hI1
        (simp_all [z65] <;> omega)
      rw [hI1, hd, hdw]
      simp [z4k, z4x, hsh]
     refine sm 4 rfl <| WL.yes rfl rfl rfl rfl rfl rfl (z1f (z4y _ _) ent27 rfl rfl (sRf _ _) rfl) <| sm 3 rfl ?_
     refine wS 71 rfl (fun hb71 => ?_) fun hb71 => ?_
     ·refine sm 15 rfl <| nL <| Tr.condT rfl <| tQ <| tG <| sm 1 rfl <| nL <| tRt <| rOk rfl ?_ nPo
      have hsh : z65 x y = false := by
        clear hd hdw hm hi hw hI1
        simp_all [z65]
      rw [hI1, hd, hdw]
      simp [z4k, z4x, hsh]
     refine sm 4 rfl <| WL.yes rfl rfl rfl rfl rfl rfl (z1f (z4y _ _) ent27 rfl rfl (sRf _ _) rfl) <| sm 3 rfl ?_
     refine wS 79 rfl (fun hb79 => ?_) fun hb79 => ?_
     ·refine sm 7 rfl <| nL <| Tr.condT rfl <| tQ <| tG <| sm 1 rfl <| nL <| tRt <| rOk rfl ?_ nPo
      have hsh : z65 x y = false := by
        clear hd hdw hm hi hw hI1
        simp_all [z65]
      rw [hI1, hd, hdw]
      simp [z4k, z4x, hsh]
     refine sm 4 rfl <| WL.yes rfl rfl rfl rfl rfl rfl (z1f (z4y _ _) ent27 rfl rfl (sRf _ _) rfl) <| sm 2 rfl <| nL ?_
     refine tC rfl (fun hc86 => ?_) fun hc86 => ?_
     ·refine tQ <| tG <| sm 1 rfl <| nL <| tRt <| rOk rfl ?_ nPo
      have hsh : z65 x y = false := by
        clear hd hdw hm hi hw hI1
        simp_all [z65]
      rw [hI1, hd, hdw]
      simp [z4k, z4x, hsh]
     refine tSk <| tQ <| tG <| sm 1 rfl <| nL <| tBk ?_
     have hsh : z65 x y = true := by
       clear hd hdw hm hi hw
       (simp_all [z65] <;> omega)
     have hkl : x.kids.length = y.kids.length := by
       clear hd hdw hm hi hw
       simp_all [z65]
     have hstart : z4k a b = (zy0 (x.kids.drop 0) (y.kids.drop 0) && z4k (a.drop (k + 1)) (b.drop (k + 1))) := by
       rw [hI1, hd, hdw]
       simp [z4k, z4x, hsh]
     refine Tr.sub (Sub.of (fr' := [(8, iInt 0), (7, .pv (.ept [vInt y.kind, vInt y.op, vInt y.n, vStr y.name, ints y.args, ints y.outs, ints y.params, kids y.kids] 0)), (6, .pv (.ept [vInt x.kind, vInt x.op, vInt x.n, vStr x.name, ints x.args, ints x.outs, ints x.params, kids x.kids] 0)), (5, iInt k), (0, .pv (z09 a)), (1, .pv (z09 b))]) ⟨rfl, rfl, rfl, rfl, rfl, rfl, trivial⟩) ?_
     refine Tr.loop (fun fr σ m => ∃ (i : Nat), (i <= x.kids.length) /\ (z4k a b = (zy0 (x.kids.drop i) (y.kids.drop i) && z4k (a.drop (k + 1)) (b.drop (k + 1)))) /\ fr = [(8, iInt i), (7, .pv (.ept [vInt y.kind, vInt y.op, vInt y.n, vStr y.name, ints y.args, ints y.outs, ints y.params, kids y.kids] 0)), (6, .pv (.ept [vInt x.kind, vInt x.op, vInt x.n, vStr x.name, ints x.args, ints x.outs, ints x.params, kids x.kids] 0)), (5, iInt k), (0, .pv (z09 a)), (1, .pv (z09 b))] /\ σ = look [] /\ m = x.kids.length - i) (n := x.kids.length - 0) ?_ ?_
     ·exact ⟨0, Nat.zero_le _, hstart, rfl, rfl, rfl⟩
     rintro fr σ m ⟨i, hJ0, hJ1, rfl, rfl, rfl⟩
     refine tQ <| tQ <| tG <| sm 3 rfl ?_
     refine WL.lenOf (t := 89) rfl (fun hl3 => ?_)
     simp only [List.length_map] at hl3
     refine cV rfl (oSm uT40 rfl) <| sm 1 rfl <| nL ?_
     refine tC rfl (fun hc91 => ?_) fun hc91 => ?_
     ·have hlt2 : i < x.kids.length := by simpa using hc91
      have hd2 := List.drop_eq_getElem_cons hlt2
      have hm2 := List.getElem_mem hlt2
      have hi2 := z0a (f := eKid) (List.getElem?_eq_getElem hlt2)
      generalize x.kids[i] = p at hd2 hm2 hi2
      have hdec : SizeOf.sizeOf p < N := Nat.lt_of_lt_of_le (z4s hm rfl hm2) (Nat.le_of_lt_succ hN)
      have hltw2 : i < y.kids.length := by omega
      have hdw2 := List.drop_eq_getElem_cons hltw2
      have hw2 := z0a (f := eKid) (List.getElem?_eq_getElem hltw2)
      generalize y.kids[i] = q at hdw2 hw2
      refine tSk <| tQ <| tBk <| tQ <| tDr z1b (fun k => k ∈ ([] : List Nat)) <| wR 2 [0, 1, 2, 3, 4, 5, 6, 7, 8, 9] kR0 h30 <| smR 3 rfl <| rV rfl rfl (iSq rfl rfl rfl uT40 hi2 tS43 rfl (by rfl)) <| smR 4 rfl <| rV rfl rfl (iSq rfl rfl rfl uT40 hw2 tS43 rfl (by rfl)) <| smR 1 rfl <| nR ?_
      refine wO 10 kR0 <| wI rfl rfl nf nw (fun _ _ => ocq (ih p q hdec) ent28 rfl rfl) <| wR 0 [11] kR0 h30 <| smR 1 rfl <| nR <| wDn kR0 ?_
      refine tC rfl (fun hc105 => ?_) fun hc105 => ?_
      ·refine tQ <| tG <| sm 1 rfl <| nL <| tRt <| rOk rfl ?_ nPo
       have hpq : z4k p q = false := by simpa using hc105
       rw [hJ1, hd2, hdw2]
       simp [zy0, hpq]
      refine tSk <| tG <| sm 1 rfl <| cV rfl (oB rfl rfl (z03 rfl oM0)) <| sm 1 rfl <| nL ?_
      refine ⟨_, _, ?_, Sub.of (fr' := [(8, iInt (i + 1)), (7, .pv (.ept [vInt y.kind, vInt y.op, vInt y.n, vStr y.name, ints y.args, ints y.outs, ints y.params, kids y.kids] 0)), (6, .pv (.ept [vInt x.kind, vInt x.op, vInt x.n, vStr x.name, ints x.args, ints x.outs, ints x.params, kids x.kids] 0)), (5, iInt k), (0, .pv (z09 a)), (1, .pv (z09 b))]) ⟨rfl, rfl, rfl, rfl, rfl, rfl, trivial⟩, (i + 1), ?_, ?_, rfl, rfl, rfl⟩
      ·omega
      ·omega
      rw [hJ1, hd2, hdw2]
      have : z4k p q = true := by simpa using hc105
      simp [zy0, this]
     refine tEx <| tG <| sm 1 rfl <| cV rfl (oB rfl rfl (z03 rfl oM0)) <| sm 1 rfl <| nL ?_
     refine ⟨_, _, ?_, Sub.of (fr' := [(5, iInt (k + 1)), (0, .pv (z09 a)), (1, .pv (z09 b))]) ⟨rfl, rfl, rfl, trivial⟩, (k + 1), ?_, ?_, rfl, rfl, rfl⟩
     ·omega
     ·omega
     have hz1 : x.kids.drop i = [] := List.drop_eq_nil_of_le (by simpa using hc91)
     have hz2 : y.kids.drop i = [] := List.drop_eq_nil_of_le (by rw [<- hkl]; simpa using hc91)
     rw [hJ1, hz1, hz2]
     simp [zy0]
    refine tEx <| tQ <| tG <| sm 1 rfl <| nL <| tRt <| rOk rfl ?_ nPo
    have hge : a.length <= k := by simpa using hc17
    rw [hI1, List.drop_eq_nil_of_le hge, List.drop_eq_nil_of_le oM0]
    rfl
theorem zm0 (a b : List Nd) : SC Tryz.prog 28 [.pv (z09 a), .pv (z09 b)] [] (fun _ => False) (iBool (z4k a b)) [] := z9m _ a b (Nat.lt_succ_self _)
theorem y6f (u v : Un) : SC Tryz.prog 15 [.pv u.enc, .pv v.enc] [] (fun _ => False) (iBool (z8h u v)) [] := by
  refine SC.of Tryz.func15 rfl (lb rfl) fun F ρ w => ?_
  refine tQ <| tG <| cE rfl (z1c rfl rfl) <| cE rfl (z1c rfl rfl) <| sm 1 rfl <| nL <| tQ <| tQ <| tG <| sm 2 rfl <| cV rfl (oSm uT22 rfl) <| sm 2 rfl ?_
  refine cV rfl (oSm uT22 rfl) <| sm 2 rfl ?_
  refine wS 16 rfl (fun hb16 => ?_) fun hb16 => ?_
  ·refine sm 8 rfl <| nL <| Tr.condT rfl <| tQ <| tG <| sm 1 rfl <| nL <| tRt <| rOk rfl ?_ nPo
   refine congrArg (fun b => iBool b) ?_
   have hne : ¬ (u.arrays.length = v.arrays.length /\ u.flows.length = v.flows.length) := by
     rintro ⟨h1, h2⟩
     simp_all
   unfold z8h
   by_cases h1 : u.arrays.length = v.arrays.length
   ·have h2 : ¬ u.flows.length = v.flows.length := fun h2 => hne ⟨h1, h2⟩
    simp [h2]
   simp [h1]
  refine sm 2 rfl <| yV rfl rfl (oSm uT23 rfl) <| sm 2 rfl <| yV rfl rfl (oSm uT23 rfl) <| sm 2 rfl <| nL ?_
  refine tC rfl (fun hc24 => ?_) fun hc24 => ?_
  ·refine tQ <| tG <| sm 1 rfl <| nL <| tRt <| rOk rfl ?_ nPo
   refine congrArg (fun b => iBool b) ?_
   have hne : ¬ (u.arrays.length = v.arrays.length /\ u.flows.length = v.flows.length) := by
     rintro ⟨h1, h2⟩
     simp_all
   unfold z8h
   by_cases h1 : u.arrays.length = v.arrays.length
   ·have h2 : ¬ u.flows.length = v.flows.length := fun h2 => hne ⟨h1, h2⟩
    simp [h2]
   simp [h1]
  have hlen : u.arrays.length = v.arrays.length /\ u.flows.length = v.flows.length := by
    (simp_all <;> omega)
  refine tSk <| tQ <| tQ <| tG <| sm 1 rfl <| nL <| tBk <| Tr.sub (Sub.of (fr' := [(5, iInt 0), (2, .pv (.ept [arrs u.arrays, flws u.flows] 0)), (3, .pv (.ept [arrs v.arrays, flws v.flows] 0))]) ⟨rfl, rfl, rfl, trivial⟩) ?_
  refine Tr.loop (fun fr σ m => ∃ (k : Nat), (k <= u.arrays.length) /\ (z4j u.arrays v.arrays = z4j (u.arrays.drop k) (v.arrays.drop k)) /\ fr = [(5, iInt k), (2, .pv (.ept [arrs u.arrays, flws u.flows] 0)), (3, .pv (.ept [arrs v.arrays, flws v.flows] 0))] /\ σ = look [] /\ m = u.arrays.length - k) (n := u.arrays.length - 0) ?_ ?_
  ·exact ⟨0, Nat.zero_le _, rfl, rfl, rfl, rfl⟩
  rintro fr σ m ⟨k, hI0, hI1, rfl, rfl, rfl⟩
  refine tQ <| tQ <| tG <| sm 3 rfl ?_
  refine WL.lenOf (t := 27) rfl (fun hl1 => ?_)
  simp only [List.length_map] at hl1
  refine cV rfl (oSm uT22 rfl) <| sm 1 rfl <| nL ?_
  refine tC rfl (fun hc29 => ?_) fun hc29 => ?_
  ·have hlt : k < u.arrays.length := by simpa using hc29
   have hd := List.drop_eq_getElem_cons hlt
   have hm := List.getElem_mem hlt
   have hi := z0a (f := Ar.enc) (List.getElem?_eq_getElem hlt)
   generalize u.arrays[k] = x at hd hm hi
   have hltw : k < v.arrays.length := by omega
   have hdw := List.drop_eq_getElem_cons hltw
   have hw := z0a (f := Ar.enc) (List.getElem?_eq_getElem hltw)
   generalize v.arrays[k] = y at hdw hw
   refine tSk <| tQ <| tBk <| tQ <| Tr.still z1b kR0 rfl <| smS 3 rfl <| sV rfl (iSq rfl rfl rfl uT22 hi tS49 rfl (by rfl)) <| sV rfl (lEA rfl rfl Tryz.underlying49 rfl tS49 (lb rfl)) <| smS 3 rfl <| sV rfl (iSq rfl rfl rfl uT22 hw tS49 rfl (by rfl)) <| sV rfl (lEA rfl rfl Tryz.underlying49 rfl tS49 (lb rfl)) <| sV rfl (z9k rfl rfl rfl Tryz.underlying49 uT9 uT3 rfl rfl dC0 dC0 kR0 kR0) ?_
   refine WS.nil ?_
   refine tC rfl (fun hc42 => ?_) fun hc42 => ?_
   ·refine tQ <| tG <| sm 1 rfl <| nL <| tRt <| rOk rfl ?_ nPo
    have hxy : zj0 x y = false := by
      clear hd hdw hm hi hw hI1
      cases hb1 : (x.name.toList == y.name.toList) <;> cases hb2 : (x.size == y.size) <;> simp_all [zj0]
    have hA : z4j u.arrays v.arrays = false := by rw [hI1, hd, hdw]; simp [z4j, hxy]
    simp [z8h, hA]
   refine tSk <| tG <| sm 1 rfl <| cV rfl (oB rfl rfl (z03 rfl oM0)) <| sm 1 rfl <| nL ?_
   refine ⟨_, _, ?_, Sub.of (fr' := [(5, iInt (k + 1)), (2, .pv (.ept [arrs u.arrays, flws u.flows] 0)), (3, .pv (.ept [arrs v.arrays, flws v.flows] 0))]) ⟨rfl, rfl, rfl, trivial⟩, (k + 1), ?_, ?_, rfl, rfl, rfl⟩
   ·omega
   ·omega
   rw [hI1, hd, hdw]
   have hxy : zj0 x y = true := by
     clear hd hdw hm hi hw
     simp_all [zj0]
   simp [z4j, hxy]
  refine tEx <| tQ <| tQ ?_
  have hAs : z4j u.arrays v.arrays = true := by
    have hge : u.arrays.length <= k := by simpa using hc29
    rw [hI1, List.drop_eq_nil_of_le hge, List.drop_eq_nil_of_le oM0]
    rfl
  refine tG <| sm 1 rfl <| nL <| tBk <| Tr.sub (Sub.of (fr' := [(6, iInt 0), (2, .pv (.ept [arrs u.arrays, flws u.flows] 0)), (3, .pv (.ept [arrs v.arrays, flws v.flows] 0))]) ⟨rfl, rfl, rfl, trivial⟩) ?_
  refine Tr.loop (fun fr σ m => ∃ (k : Nat), (k <= u.flows.length) /\ (z4u u.flows v.flows = z4u (u.flows.drop k) (v.flows.drop k)) /\ fr = [(6, iInt k), (2, .pv (.ept [arrs u.arrays, flws u.flows] 0)), (3, .pv (.ept [arrs v.arrays, flws v.flows] 0))] /\ σ = look [] /\ m = u.flows.length - k) (n := u.flows.length - 0) ?_ ?_
  ·exact ⟨0, Nat.zero_le _, rfl, rfl, rfl, rfl⟩
  rintro fr σ m ⟨k, hI0, hI1, rfl, rfl, rfl⟩
  refine tQ <| tQ <| tG <| sm 3 rfl ?_
  refine WL.lenOf (t := 45) rfl (fun hl1 => ?_)
  simp only [List.length_map] at hl1
  refine cV rfl (oSm uT23 rfl) <| sm 1 rfl <| nL ?_
  refine tC rfl (fun hc47 => ?_) fun hc47 => ?_
  ·have hlt : k < u.flows.length := by simpa using hc47
   have hd := List.drop_eq_getElem_cons hlt
   have hm := List.getElem_mem hlt
   have hi := z0a (f := Fl.enc) (List.getElem?_eq_getElem hlt)
   generalize u.flows[k] = x at hd hm hi
   have hltw : k < v.flows.length := by omega
   have hdw := List.drop_eq_getElem_cons hltw
   have hw := z0a (f := Fl.enc) (List.getElem?_eq_getElem hltw)
   generalize v.flows[k] = y at hdw hw
   refine tSk <| tQ <| tBk <| tQ ?_
   refine Tr.cut (fr' := [(8, .ptr 108 0), (7, .ptr 107 0), (6, iInt k), (2, .pv (.ept [arrs u.arrays, flws u.flows] 0)), (3, .pv (.ept [arrs v.arrays, flws v.flows] 0))]) (σ' := look [(107, some (.box [iStr x.name, iInt x.ty, iInt x.params, .pv (ints x.types), .pv (z09 x.body)])), (108, some (.box [iStr y.name, iInt y.ty, iInt y.params, .pv (ints y.types), .pv (z09 y.body)]))]) ?_ ?_
   ·refine tDr z1b (fun k => k ∈ ([] : List Nat)) <| wR 4 [0, 1, 2, 3, 4, 5, 6, 7, 8, 9] kR0 (fun _ _ _ h => pn h.1) <| smR 3 rfl <| rV rfl rfl (iSq rfl rfl rfl uT23 hi tS51 rfl (by rfl)) <| rV rfl rfl (lEA rfl rfl Tryz.underlying51 rfl tS51 (lb rfl)) <| smR 3 rfl <| rV rfl rfl (iSq rfl rfl rfl uT23 hw tS51 rfl (by rfl)) <| rV rfl rfl (lEA rfl rfl Tryz.underlying51 rfl tS51 (lb rfl)) <| nR <| WA.all (rs := [10, 11]) kR0 sI0 ?_
    refine fmc ⟨?_, fmc ⟨?_, by simp⟩⟩
    ·refine wI rfl rfl nf (z11 rfl) (fun _ _ => aLc (k := 107) rfl tZ51 rfl rfl rfl rfl) <| wO 11 kR0 <| wI rfl rfl nf (z11 rfl) (fun _ _ => aLc (k := 108) rfl tZ51 rfl rfl rfl rfl) <| wO 12 kR0 <| wI rfl rfl nf (nOl rfl) (fun _ _ => sBA rfl rfl rfl rfl rfl sI0 tS51 (flk rfl) (lb rfl)) <| wO 13 kR0 <| wI rfl rfl nf (nOl rfl) (fun _ _ => sBA rfl rfl rfl rfl rfl sI0 tS51 (flk rfl) (lb rfl)) <| wDn kR0 ?_
     refine ⟨rfl, Sub.of ⟨rfl, rfl, rfl, rfl, rfl, trivial⟩, ?_⟩
     exact z7z rfl rfl (fun k h1 h2 => by simp [look, z02 (Ne.symm h1), z02 (Ne.symm h2)]) dC0
    refine wI rfl rfl nf (z11 rfl) (fun _ _ => aLc (k := 108) rfl tZ51 rfl rfl rfl rfl) <| wO 10 kR0 <| wI rfl rfl nf (z11 rfl) (fun _ _ => aLc (k := 107) rfl tZ51 rfl rfl rfl rfl) <| wO 12 kR0 <| wI rfl rfl nf (nOl rfl) (fun _ _ => sBA rfl rfl rfl rfl rfl sI0 tS51 (flk rfl) (lb rfl)) <| wO 13 kR0 <| wI rfl rfl nf (nOl rfl) (fun _ _ => sBA rfl rfl rfl rfl rfl sI0 tS51 (flk rfl) (lb rfl)) <| wDn kR0 ?_
    refine ⟨rfl, Sub.of ⟨rfl, rfl, rfl, rfl, rfl, trivial⟩, ?_⟩
    exact z7z rfl rfl (fun k h1 h2 => by simp [look, z02 (Ne.symm h1), z02 (Ne.symm h2)]) dC0
   refine Tr.freezeBox (t := 7) (k := 107) rfl rfl rfl <| Tr.freezeBox (t := 8) (k := 108) rfl rfl rfl <| Tr.heap (σ' := look []) (fun k => by simp only [look]; cases Nat.beq 107 k <;> cases Nat.beq 108 k <;> rfl) <| tQ <| tG <| sm 4 rfl <| cV rfl (bSt rfl rfl rfl rfl) <| sm 1 rfl ?_
   refine wS 65 rfl (fun hb65 => ?_) fun hb65 => ?_
   ·refine sm 29 rfl <| nL <| Tr.condT rfl <| tQ <| tG <| sm 1 rfl <| nL <| tRt <| rOk rfl ?_ nPo
    have hxy : za9 x y = false := by
      clear hd hdw hm hi hw hI1
      simp_all [za9]
    have hF : z4u u.flows v.flows = false := by rw [hI1, hd, hdw]; simp [z4u, hxy]
    simp [z8h, hF]
   refine sm 7 rfl ?_
   refine wS 72 rfl (fun hb72 => ?_) fun hb72 => ?_
   ·refine sm 22 rfl <| nL <| Tr.condT rfl <| tQ <| tG <| sm 1 rfl <| nL <| tRt <| rOk rfl ?_ nPo
    have hxy : za9 x y = false := by
      clear hd hdw hm hi hw hI1
      simp_all [za9]
    have hF : z4u u.flows v.flows = false := by rw [hI1, hd, hdw]; simp [z4u, hxy]
    simp [z8h, hF]
   refine sm 7 rfl ?_
   refine wS 79 rfl (fun hb79 => ?_) fun hb79 => ?_
   ·refine sm 15 rfl <| nL <| Tr.condT rfl <| tQ <| tG <| sm 1 rfl <| nL <| tRt <| rOk rfl ?_ nPo
    have hxy : za9 x y = false := by
      clear hd hdw hm hi hw hI1
      simp_all [za9]
    have hF : z4u u.flows v.flows = false := by rw [hI1, hd, hdw]; simp [z4u, hxy]
    simp [z8h, hF]
   refine sm 4 rfl <| WL.yes rfl rfl rfl rfl rfl rfl (z1f (z4y _ _) ent27 rfl rfl (sRf _ _) rfl) <| sm 3 rfl ?_
   refine wS 87 rfl (fun hb87 => ?_) fun hb87 => ?_
   ·refine sm 7 rfl <| nL <| Tr.condT rfl <| tQ <| tG <| sm 1 rfl <| nL <| tRt <| rOk rfl ?_ nPo
    have hxy : za9 x y = false := by
      clear hd hdw hm hi hw hI1
      simp_all [za9]
    have hF : z4u u.flows v.flows = false := by rw [hI1, hd, hdw]; simp [z4u, hxy]
    simp [z8h, hF]
   refine sm 4 rfl <| WL.yes rfl rfl rfl rfl rfl rfl (z1f (zm0 _ _) ent28 rfl rfl (sRf _ _) rfl) <| sm 2 rfl <| nL ?_
   refine tC rfl (fun hc94 => ?_) fun hc94 => ?_
   ·refine tQ <| tG <| sm 1 rfl <| nL <| tRt <| rOk rfl ?_ nPo
    have hxy : za9 x y = false := by
      clear hd hdw hm hi hw hI1
      simp_all [za9]
    have hF : z4u u.flows v.flows = false := by rw [hI1, hd, hdw]; simp [z4u, hxy]
    simp [z8h, hF]
   refine tSk <| tG <| sm 1 rfl <| cV rfl (oB rfl rfl (z03 rfl oM0)) <| sm 1 rfl <| nL ?_
   refine ⟨_, _, ?_, Sub.of (fr' := [(6, iInt (k + 1)), (2, .pv (.ept [arrs u.arrays, flws u.flows] 0)), (3, .pv (.ept [arrs v.arrays, flws v.flows] 0))]) ⟨rfl, rfl, rfl, trivial⟩, (k + 1), ?_, ?_, rfl, rfl, rfl⟩
   ·omega
   ·omega
   rw [hI1, hd, hdw]
   have hxy : za9 x y = true := by
     clear hd hdw hm hi hw
     simp_all [za9]
   simp [z4u, hxy]
  refine tEx <| tQ <| tG <| sm 1 rfl <| nL <| tRt <| rOk rfl ?_ nPo
  have hge : u.flows.length <= k := by simpa using hc47
  have hF : z4u u.flows v.flows = true := by rw [hI1, List.drop_eq_nil_of_le hge, List.drop_eq_nil_of_le oM0]; rfl
  simp [z8h, hAs, hF, hlen.1, hlen.2]
theorem y17 (u : Un) (hb : z0r u <= 4611686018427387904) : SC Tryz.prog 8 [.pv u.enc] [] (fun _ => False) (iInt (z0r u)) [] := by
  refine SC.of Tryz.func8 rfl (lb rfl) fun F ρ w => ?_
  have hW : z0r u = u.arrays.length + u.flows.length + wtA u.arrays + wtF u.flows := rfl
  refine tQ <| tG <| cE rfl (z1c rfl rfl) <| sm 1 rfl <| nL <| tQ <| tG <| sm 2 rfl ?_
  refine WL.lenOf (t := 7) rfl (fun hl1 => ?_)
  simp only [List.length_map] at hl1
  refine cV rfl (oSm uT22 rfl) <| sm 2 rfl ?_
  refine WL.lenOf (t := 10) rfl (fun hl2 => ?_)
  simp only [List.length_map] at hl2
  refine cV rfl (oSm uT23 rfl) <| cV rfl (oB rfl rfl (z03 rfl oM0)) <| sm 1 rfl <| nL <| tQ <| tQ <| tG <| sm 1 rfl <| nL <| tBk <| Tr.sub (Sub.of (fr' := [(4, iInt 0), (3, iInt (u.arrays.length + u.flows.length)), (1, .pv (.ept [arrs u.arrays, flws u.flows] 0))]) ⟨rfl, (by rfl), rfl, trivial⟩) ?_
  refine Tr.loop (fun fr σ m => ∃ (k : Nat) (n : Nat), (k <= u.arrays.length) /\ (n + wtA (u.arrays.drop k) + wtF u.flows = z0r u) /\ fr = [(4, iInt k), (3, iInt n), (1, .pv (.ept [arrs u.arrays, flws u.flows] 0))] /\ σ = look [] /\ m = u.arrays.length - k) (n := u.arrays.length - 0) ?_ ?_
  ·exact ⟨0, (u.arrays.length + u.flows.length), Nat.zero_le _, rfl, rfl, rfl, rfl⟩
  rintro fr σ m ⟨k, n, hI0, hI1, rfl, rfl, rfl⟩
  refine tQ <| tQ <| tG <| sm 3 rfl <| cV rfl (oSm uT22 rfl) <| sm 1 rfl <| nL ?_
  refine tC rfl (fun hc17 => ?_) fun hc17 => ?_
  ·have hlt : k < u.arrays.length := by simpa using hc17
   have hd := List.drop_eq_getElem_cons hlt
   have hm := List.getElem_mem hlt
   have hi := z0a (f := Ar.enc) (List.getElem?_eq_getElem hlt)
   generalize u.arrays[k] = x at hd hm hi
   rw [hd, show wtA (x :: u.arrays.drop (k + 1)) = x.name.size + wtA (u.arrays.drop (k + 1)) from rfl] at hI1
   refine tSk <| tQ <| tBk <| tG <| sm 4 rfl <| cV rfl (iSq rfl rfl rfl uT22 hi tS49 rfl (by rfl)) <| sm 2 rfl <| cV rfl (z46 rfl rfl uT9) <| cV rfl (oB rfl rfl (z03 rfl oM0)) <| sm 1 rfl <| nL <| tG ?_
   refine sm 1 rfl <| cV rfl (oB rfl rfl (z03 rfl oM0)) <| sm 1 rfl <| nL ?_
   refine ⟨_, _, ?_, Sub.of (fr' := [(4, iInt (k + 1)), (3, iInt (n + x.name.size)), (1, .pv (.ept [arrs u.arrays, flws u.flows] 0))]) ⟨rfl, congrArg (fun z => some (iInt z)) (by rfl), rfl, trivial⟩, (k + 1), (n + x.name.size), ?_, ?_, rfl, rfl, rfl⟩
   all_goals omega
  refine tEx <| tQ <| tQ <| tG <| sm 1 rfl <| nL <| tBk ?_
  have hstart : n + wtF (u.flows.drop 0) = z0r u := by
    rw [List.drop_eq_nil_of_le (by simpa using hc17)] at hI1
    simpa [wtA] using hI1
  refine Tr.sub (Sub.of (fr' := [(5, iInt 0), (3, iInt n), (1, .pv (.ept [arrs u.arrays, flws u.flows] 0))]) ⟨rfl, rfl, rfl, trivial⟩) ?_
  refine Tr.loop (fun fr σ m => ∃ (k : Nat) (acc : Nat), (k <= u.flows.length) /\ (acc + wtF (u.flows.drop k) = z0r u) /\ fr = [(5, iInt k), (3, iInt acc), (1, .pv (.ept [arrs u.arrays, flws u.flows] 0))] /\ σ = look [] /\ m = u.flows.length - k) (n := u.flows.length - 0) ?_ ?_
  ·exact ⟨0, n, Nat.zero_le _, hstart, rfl, rfl, rfl⟩
  rintro fr σ m ⟨k, acc, hJ0, hJ1, rfl, rfl, rfl⟩
  refine tQ <| tQ <| tG <| sm 3 rfl <| cV rfl (oSm uT23 rfl) <| sm 1 rfl <| nL ?_
  refine tC rfl (fun hc33 => ?_) fun hc33 => ?_
  ·have hlt : k < u.flows.length := by simpa using hc33
   have hd := List.drop_eq_getElem_cons hlt
   have hm := List.getElem_mem hlt
   have hi := z0a (f := Fl.enc) (List.getElem?_eq_getElem hlt)
   generalize u.flows[k] = x at hd hm hi
   rw [hd, show wtF (x :: u.flows.drop (k + 1)) = x.name.size + x.types.length + z17 x.body + wtF (u.flows.drop (k + 1)) from rfl] at hJ1
   have hbn : z17 x.body <= 4611686018427387904 := by omega
   refine tSk <| tQ <| tBk <| tDr z1b (fun k => k ∈ ([] : List Nat)) <| wR 3 [0, 1, 2, 3, 4, 5, 6, 7, 8, 9, 10, 11, 12, 13, 14, 15, 16, 17, 18, 19, 20, 21, 22] kR0 h30 <| smR 4 rfl <| rV rfl rfl (iSq rfl rfl rfl uT23 hi tS51 rfl (by rfl)) <| smR 2 rfl <| rV rfl rfl (z46 rfl rfl uT9) <| rV rfl rfl (oB rfl rfl (z03 rfl oM0)) <| smR 3 rfl <| rV rfl rfl (iSq rfl rfl rfl uT23 hi tS51 rfl (by rfl)) ?_
   refine smR 2 rfl <| rV rfl rfl (oSm uT35 rfl) <| rV rfl rfl (oB rfl rfl (z03 rfl oM0)) <| smR 3 rfl <| rV rfl rfl (iSq rfl rfl rfl uT23 hi tS51 rfl (by rfl)) <| smR 2 rfl <| nR <| wO 23 kR0 <| wI rfl rfl nf nw (fun _ _ => ocq (y3x _ hbn) ent18 rfl rfl) <| wR 0 [24, 25] kR0 h30 <| rV rfl rfl (oB rfl rfl (z03 rfl oM0)) <| smR 1 rfl ?_
   refine nR <| wDn kR0 <| tG <| sm 1 rfl <| cV rfl (oB rfl rfl (z03 rfl oM0)) <| sm 1 rfl <| nL ?_
   refine ⟨_, _, ?_, Sub.of (fr' := [(5, iInt (k + 1)), (3, iInt (acc + x.name.size + x.types.length + z17 x.body)), (1, .pv (.ept [arrs u.arrays, flws u.flows] 0))]) ⟨rfl, congrArg (fun z => some (iInt z)) (by rfl), rfl, trivial⟩, (k + 1), (acc + x.name.size + x.types.length + z17 x.body), ?_, ?_, rfl, rfl, rfl⟩
   all_goals omega
  refine tEx <| tQ <| tG <| sm 2 rfl <| nL <| tRt <| rOk rfl ?_ nPo
  rw [List.drop_eq_nil_of_le (by simpa using hc33)] at hJ1
  simp only [wtF, Nat.add_zero] at hJ1
  rw [<- hJ1]
theorem y6e (u : Un) (f : Fl) (hg : ∀ g ∈ u.flows, 0 <= g.params /\ g.params <= g.types.length) (hb : lsW f.body <= 536870912) : SC Tryz.prog 33 [.pv u.enc, .pv (.agg f.enc)] [] (fun _ => False) (iBool (z2k u f)) [] := by
  refine SC.of Tryz.func33 rfl (lb rfl) fun F ρ w => ?_
  refine tQ <| tG <| cE rfl (z1c rfl rfl) <| cE rfl (z1c rfl rfl) <| sm 1 rfl <| nL <| tQ <| tQ <| tG <| sm 4 rfl ?_
  refine wS 12 rfl (fun hb12 => ?_) fun hb12 => ?_
  ·refine sm 18 rfl <| nL <| Tr.condT rfl <| tQ <| tG <| sm 1 rfl <| nL <| tRt <| rOk rfl ?_ nPo
   refine congrArg (fun b => iBool b) ?_
   have hno : (!decide (f.params < 0) && !decide (f.params > 8) && !decide (f.params > f.types.length) && !decide ((f.types.length : Int) > 20000)) = false := by
     simp_all
   simp only [z2k, hno, Bool.false_and]
  refine sm 5 rfl ?_
  refine wS 17 rfl (fun hb17 => ?_) fun hb17 => ?_
  ·refine sm 13 rfl <| nL <| Tr.condT rfl <| tQ <| tG <| sm 1 rfl <| nL <| tRt <| rOk rfl ?_ nPo
   refine congrArg (fun b => iBool b) ?_
   have hno : (!decide (f.params < 0) && !decide (f.params > 8) && !decide (f.params > f.types.length) && !decide ((f.types.length : Int) > 20000)) = false := by
     simp_all
   simp only [z2k, hno, Bool.false_and]
  refine sm 4 rfl <| yV rfl rfl (oSm uT35 rfl) <| sm 3 rfl ?_
  refine wS 25 rfl (fun hb25 => ?_) fun hb25 => ?_
  ·refine sm 5 rfl <| nL <| Tr.condT rfl <| tQ <| tG <| sm 1 rfl <| nL <| tRt <| rOk rfl ?_ nPo
   refine congrArg (fun b => iBool b) ?_
   have hno : (!decide (f.params < 0) && !decide (f.params > 8) && !decide (f.params > f.types.length) && !decide ((f.types.length : Int) > 20000)) = false := by
     simp_all
   simp only [z2k, hno, Bool.false_and]
  ·refine sm 2 rfl <| yV rfl rfl (oSm uT35 rfl) <| sm 2 rfl <| nL ?_
   refine tC rfl (fun hc30 => ?_) fun hc30 => ?_
   ·refine tQ <| tG <| sm 1 rfl <| nL <| tRt <| rOk rfl ?_ nPo
    refine congrArg (fun b => iBool b) ?_
    have hno : (!decide (f.params < 0) && !decide (f.params > 8) && !decide (f.params > f.types.length) && !decide ((f.types.length : Int) > 20000)) = false := by
      simp_all
    simp only [z2k, hno, Bool.false_and]
   ·have hpar : 0 <= f.params /\ f.params <= 8 /\ f.params <= f.types.length /\ f.types.length <= 20000 := by
      (simp_all <;> omega)
    refine tSk <| tQ <| tQ <| tG <| sm 1 rfl <| nL <| tBk <| Tr.sub (Sub.of (fr' := [(5, iInt 0), (2, .pv (.ept [arrs u.arrays, flws u.flows] 0)), (3, .pv (.ept [vStr f.name, vInt f.ty, vInt f.params, ints f.types, z09 f.body] 0))]) ⟨rfl, rfl, rfl, trivial⟩) ?_
    refine Tr.loop (fun fr σ m => ∃ (k : Nat), (k <= f.types.length) /\ (f.types.all (fun t => t == 1 || t == 2) = (f.types.drop k).all (fun t => t == 1 || t == 2)) /\ fr = [(5, iInt k), (2, .pv (.ept [arrs u.arrays, flws u.flows] 0)), (3, .pv (.ept [vStr f.name, vInt f.ty, vInt f.params, ints f.types, z09 f.body] 0))] /\ σ = look [] /\ m = f.types.length - k) (n := f.types.length - 0) ?_ ?_
    ·exact ⟨0, Nat.zero_le _, rfl, rfl, rfl, rfl⟩
    rintro fr σ m ⟨k, hI0, hI1, rfl, rfl, rfl⟩
    refine tQ <| tQ <| tG <| sm 3 rfl <| cV rfl (oSm uT35 rfl) <| sm 1 rfl <| nL ?_
    refine tC rfl (fun hc35 => ?_) fun hc35 => ?_
    ·have hlt : k < f.types.length := by simpa using hc35
     have hd := List.drop_eq_getElem_cons hlt
     have hm := List.getElem_mem hlt
     have hi := z0a (f := eInt) (List.getElem?_eq_getElem hlt)
     generalize f.types[k] = x at hd hm hi
     refine tSk <| tQ <| tBk <| tQ <| tG <| sm 3 rfl <| cV rfl (iSq rfl rfl rfl uT35 hi tS3 rfl (by rfl)) <| sm 3 rfl ?_
     refine wS 44 rfl (fun hb44 => ?_) fun hb44 => ?_
     ·refine sm 3 rfl <| yV rfl rfl (iSq rfl rfl rfl uT35 hi tS3 rfl (by rfl)) <| sm 3 rfl <| nL ?_
      refine tC rfl (fun hc51 => ?_) fun hc51 => ?_
      ·refine tQ <| tG <| sm 1 rfl <| nL <| tRt <| rOk rfl ?_ nPo
       have hx : (x == 1 || x == 2) = false := by
         clear hd hm hi hI1
         simp_all
       have hty : f.types.all (fun t => t == 1 || t == 2) = false := by rw [hI1, hd]; simp only [List.all_cons, hx, Bool.false_and]
       simp only [z2k, hty, Bool.and_false, Bool.false_and]
      refine tSk <| tG <| sm 1 rfl <| cV rfl (oB rfl rfl (z03 rfl oM0)) <| sm 1 rfl <| nL ?_
      refine ⟨_, _, ?_, Sub.of (fr' := [(5, iInt (k + 1)), (2, .pv (.ept [arrs u.arrays, flws u.flows] 0)), (3, .pv (.ept [vStr f.name, vInt f.ty, vInt f.params, ints f.types, z09 f.body] 0))]) ⟨rfl, rfl, rfl, trivial⟩, (k + 1), ?_, ?_, rfl, rfl, rfl⟩
      ·omega
      ·omega
      rw [hI1, hd]
      have hx : (x == 1 || x == 2) = true := by
        clear hd hm hi hI1
        simp_all
      simp only [List.all_cons, hx, Bool.true_and]
     refine sm 7 rfl <| nL <| Tr.condF rfl <| tSk <| tG <| sm 1 rfl <| cV rfl (oB rfl rfl (z03 rfl oM0)) <| sm 1 rfl <| nL ?_
     refine ⟨_, _, ?_, Sub.of (fr' := [(5, iInt (k + 1)), (2, .pv (.ept [arrs u.arrays, flws u.flows] 0)), (3, .pv (.ept [vStr f.name, vInt f.ty, vInt f.params, ints f.types, z09 f.body] 0))]) ⟨rfl, rfl, rfl, trivial⟩, (k + 1), ?_, ?_, rfl, rfl, rfl⟩
     ·omega
     ·omega
     rw [hI1, hd]
     have hx : (x == 1 || x == 2) = true := by
       clear hd hm hi hI1
       simp_all
     simp only [List.all_cons, hx, Bool.true_and]
    refine tEx <| tQ ?_
    have hty : f.types.all (fun t => t == 1 || t == 2) = true := by
      rw [hI1, List.drop_eq_nil_of_le (by simpa using hc35)]; rfl
    have hpt : f.params.toNat <= f.types.length := by omega
    have hpi : f.params = (f.params.toNat : Int) := by omega
    refine tDr z1b (fun k => k < 3) <| wR 4 [0, 1, 2, 3, 4] kR0 h30 <| rV rfl rfl (lEA rfl rfl uT25 rfl tS25 (lb rfl)) <| rV rfl rfl (lEA rfl rfl Tryz.underlying51 rfl tS51 (lb rfl)) <| smR 2 rfl <| rV rfl rfl (oSm uT35 rfl) <| nR <| wO 5 kR0 <| wI rfl rfl nf (z11 rfl) (fun _ _ => z0u (k := 4) (s := ⟨4, 1⟩) rfl rfl rfl Tryz.underlying86 tZ4 tC4 rfl dC0 oM0 oM0 rfl rfl rfl rfl) <| wR 2 [6] kR0 h30 <| rV rfl rfl (by exact ze0 rfl rfl tZ88 tP88 rfl (zf9 (by (simp [y1y, firm1, look, PV.one]; exact ⟨_, _, ⟨rfl, rfl⟩, by simp⟩)))) <| nR ?_
    refine wO 7 kR0 <| wI rfl rfl nf (z11 rfl) (fun _ _ => zh5 (k := 3) rfl rfl rfl rfl rfl rfl rfl) <| wR 0 [8] kR0 h30 <| smR 1 rfl <| nR <| wDn kR0 <| tQ <| tG <| sm 1 rfl <| nL <| tQ <| tQ ?_
    refine Tr.grow (t := 7) (k := 107) ⟨3, 1⟩ rfl rfl rfl rfl rfl <| tG <| sm 1 rfl <| nL <| tBk <| Tr.sub (Sub.of (fr' := [(8, iInt 0), (7, .sl 107 (iota 0).length), (6, .ptr 3 0), (2, .pv (.ept [arrs u.arrays, flws u.flows] 0)), (3, .pv (.ept [vStr f.name, vInt f.ty, vInt f.params, ints f.types, z09 f.body] 0))]) ⟨rfl, rfl, rfl, rfl, rfl, trivial⟩) ?_
    refine Tr.heap (σ' := look ((107, some (.row ⟨3, 1⟩ ((iota 0).map eInt))) :: up (ckHp u f 4 (z39 0 f.types.length)))) (fun k => by
  rw [show (z39 0 f.types.length) = List.replicate f.types.length false by simp [z39]]
  simp only [ckHp, up, List.map_cons, List.map_nil, look, List.length_map, List.length_replicate, List.map_replicate, iota, List.range_zero]
  by_cases h3 : 3 = k
  · subst h3; rfl
  · by_cases h4 : 4 = k
    · subst h4; rfl
    · simp [z02 h3, z02 h4]) ?_
    refine Tr.loop (fun fr σ m => ∃ (k : Nat), (k <= f.params.toNat) /\ fr = [(8, iInt k), (7, .sl 107 (iota k).length), (6, .ptr 3 0), (2, .pv (.ept [arrs u.arrays, flws u.flows] 0)), (3, .pv (.ept [vStr f.name, vInt f.ty, vInt f.params, ints f.types, z09 f.body] 0))] /\ σ = look ((107, some (.row ⟨3, 1⟩ ((iota k).map eInt))) :: up (ckHp u f 4 (z39 k f.types.length))) /\ m = f.params.toNat - k) (n := f.params.toNat - 0) ?_ ?_
    ·exact ⟨0, Nat.zero_le _, rfl, rfl, rfl⟩
    rintro fr σ m ⟨k, hJ0, rfl, rfl, rfl⟩
    refine tQ <| tQ <| tG <| sm 4 rfl <| nL ?_
    refine tC rfl (fun hc63 => ?_) fun hc63 => ?_
    ·have hkp : k < f.params.toNat := by simp at hc63; omega
     have hkt : k < f.types.length := by omega
     have hil := z8s k
     have hst : ((z39 k f.types.length).map zc8)[k]? = some [vBool false] := by
       rw [List.getElem?_map]
       simp only [z39]
       rw [List.getElem?_append_right sI0]
       simp [List.getElem?_replicate, zc8]
       omega
     have hstl : k < ((z39 k f.types.length).map zc8).length := by rw [List.length_map, z3q oM0]; exact hkt
     refine tSk <| tQ <| tBk <| tQ <| tG <| sm 1 rfl <| cV rfl (nCk rfl rfl rfl) <| sm 3 rfl <| cV rfl (iRw rfl rfl rfl rfl rfl Tryz.underlying86 tS4 (by assumption) (by rfl)) <| c0 (z1n rfl rfl rfl rfl rfl (Nat.add_zero _).symm (by assumption) sI0 tS4 rfl ((fun h => h))) <| nL <| tG ?_
     refine sm 2 rfl <| cE rfl (bSl rfl rfl uT35 tZ3 tS3 rfl rfl rfl rfl (fbk rfl) rfl) ?_
     refine cE rfl (aPp rfl rfl rfl rfl (by (simp; done)) ((fun h => h)) uT35 tB3 dC0 (by (simp [z0o]; done)) (by (simp [z0o, PV.one]; rfl)) (by simp [maxLen, z0o]; omega) (by simp [z0o]; omega)) ?_
     refine sm 1 rfl <| nL <| tG <| sm 1 rfl <| cV rfl (oB rfl rfl (z03 rfl oM0)) <| sm 1 rfl <| nL ?_
     refine ⟨_, _, ?_, Sub.of (fr' := [(8, iInt (k + 1)), (7, .sl 107 (iota (k + 1)).length), (6, .ptr 3 0), (2, .pv (.ept [arrs u.arrays, flws u.flows] 0)), (3, .pv (.ept [vStr f.name, vInt f.ty, vInt f.params, ints f.types, z09 f.body] 0))]) ⟨rfl, congrArg (fun z => some (IV.sl 107 z)) (by (simp [z8s, z0o]; done)), rfl, rfl, rfl, trivial⟩, (k + 1), ?_, rfl, (funext fun j => by
  rw [<- y2v hkt, <- y5d, List.map_append]
  simp only [ckHp, up, List.map_cons, List.map_nil, look, List.length_map, List.length_set]
  by_cases h7 : 107 = j
  · subst h7; rfl
  · by_cases h4 : 4 = j
    · subst h4; simp [List.map_set, zc8, show Nat.beq 3 4 = false from rfl, show Nat.beq 107 4 = false from rfl]
    · by_cases h3 : 3 = j
      · subst h3; simp [show Nat.beq 4 3 = false from rfl, show Nat.beq 107 3 = false from rfl]
      · simp [z02 h3, z02 h4, z02 h7]), rfl⟩
     all_goals omega
    refine tEx <| tQ ?_
    have hkp : k = f.params.toNat := by simp at hc63; omega
    subst hkp
    have hbl : (iota f.params.toNat).length + lsW f.body <= 1073741824 := by rw [z8s]; omega
    refine tG <| sm 4 rfl <| cV rfl (bPu rfl rfl tZ90 tP90 rfl (fbk rfl) rfl) <| cE rfl (z2o (fun k => k = 107) (y6h u f hg f.body 1 z35 (iota f.params.toNat) (z39 f.params.toNat f.types.length) ⟨by omega, by omega⟩ (z3q hpt) hbl) zu3 rfl rfl (sSm rfl (sSm rfl (sSm rfl (Subs.cons (fun _ _ _ _ h => z4v (q := whv z35) (PSub.agg (ps := [vBool false, vBool false, .val (.slice none 0 0), .val (.slice none 0 0), .val (.slice none 0 0)]) (And.intro (PSub.refl _) (And.intro (PSub.refl _) (And.intro PSub.nil (And.intro PSub.nil (And.intro PSub.nil trivial)))))) h) (sSm rfl Subs.nil))))) (And.intro LendOf.same (And.intro LendOf.same (And.intro (LendOf.row rfl rfl (by (simp; done)) (by rfl)) (And.intro LendOf.same (And.intro LendOf.same (trivial)))))) (fun k h => by subst h; rfl) (po2 rfl rfl) rfl (fun k (h : _) => (show False from h).elim) ⟨_, rfl⟩ (z2t (z2q ..))) <| sm 1 rfl <| nL <| tRt <| rOk rfl ?_ nPo
    have hno : (!decide (f.params < 0) && !decide (f.params > 8) && !decide (f.params > f.types.length) && !decide ((f.types.length : Int) > 20000)) = true := by
      simp
      omega
    simp only [z2k, hno, hty, Bool.true_and]
theorem zy3 (u : Un) : SC Tryz.prog 32 [.pv u.enc] [] (fun _ => False) (iBool (z0s u)) [] := by
  refine SC.of Tryz.func32 rfl (lb rfl) fun F ρ w => ?_
  refine tQ <| tG <| cE rfl (z1c rfl rfl) <| sm 1 rfl <| nL <| tQ <| tQ <| tG <| sm 1 rfl <| nL <| tBk <| Tr.sub (Sub.of (fr' := [(3, iInt 0), (1, .pv (.ept [arrs u.arrays, flws u.flows] 0))]) ⟨rfl, rfl, trivial⟩) ?_
  refine Tr.loop (fun fr σ m => ∃ (k : Nat), (k <= u.arrays.length) /\ (r8gA u u.arrays 0 = r8gA u (u.arrays.drop k) k) /\ fr = [(3, iInt k), (1, .pv (.ept [arrs u.arrays, flws u.flows] 0))] /\ σ = look [] /\ m = u.arrays.length - k) (n := u.arrays.length - 0) ?_ ?_
  ·exact ⟨0, Nat.zero_le _, rfl, rfl, rfl, rfl⟩
  rintro fr σ m ⟨k, hI0, hI1, rfl, rfl, rfl⟩
  refine tQ <| tQ <| tG <| sm 3 rfl ?_
  refine WL.lenOf (t := 10) rfl (fun hl1 => ?_)
  simp only [List.length_map] at hl1
  refine cV rfl (oSm uT22 rfl) <| sm 1 rfl <| nL ?_
  refine tC rfl (fun hc12 => ?_) fun hc12 => ?_
  ·have hlt : k < u.arrays.length := by simpa using hc12
   have hd := List.drop_eq_getElem_cons hlt
   have hm := List.getElem_mem hlt
   have hi := z0a (f := Ar.enc) (List.getElem?_eq_getElem hlt)
   generalize u.arrays[k] = x at hd hm hi
   refine tSk <| tQ <| tBk <| tQ <| tG <| sm 3 rfl <| cV rfl (iSq rfl rfl rfl uT22 hi tS49 rfl (by rfl)) <| cV rfl (lEA rfl rfl Tryz.underlying49 rfl tS49 (lb rfl)) <| cE rfl (aLc (k := 104) rfl tZ49 rfl rfl rfl rfl) <| c0 (sBA rfl rfl rfl rfl rfl ((fun h => h)) tS49 (flk rfl) (lb rfl)) <| nL <| tQ ?_
   refine Tr.freezeBox (t := 4) (k := 104) rfl rfl rfl <| Tr.heap (σ' := look []) (fun k => by simp only [look]; cases Nat.beq 104 k <;> rfl) <| tG <| sm 2 rfl <| cE rfl (ocq (zy2 _) ent50 rfl rfl) <| sm 2 rfl ?_
   refine wS 24 rfl (fun hb24 => ?_) fun hb24 => ?_
   ·refine sm 24 rfl <| nL <| Tr.condT rfl <| tQ <| tG <| sm 1 rfl <| nL <| tRt <| rOk rfl ?_ nPo
    have hx : gArr u x k = false := by
      clear hd hm hi hI1
      simp_all [gArr]
    have hA : r8gA u u.arrays 0 = false := by rw [hI1, hd]; simp only [r8gA, hx, Bool.false_and]
    simp only [z0s, hA, Bool.false_and]
   refine sm 5 rfl ?_
   refine wS 29 rfl (fun hb29 => ?_) fun hb29 => ?_
   ·refine sm 19 rfl <| nL <| Tr.condT rfl <| tQ <| tG <| sm 1 rfl <| nL <| tRt <| rOk rfl ?_ nPo
    have hx : gArr u x k = false := by
      clear hd hm hi hI1
      simp_all [gArr]
    have hA : r8gA u u.arrays 0 = false := by rw [hI1, hd]; simp only [r8gA, hx, Bool.false_and]
    simp only [z0s, hA, Bool.false_and]
   refine sm 5 rfl ?_
   refine wS 34 rfl (fun hb34 => ?_) fun hb34 => ?_
   ·refine sm 14 rfl <| nL <| Tr.condT rfl <| tQ <| tG <| sm 1 rfl <| nL <| tRt <| rOk rfl ?_ nPo
    have hx : gArr u x k = false := by
      clear hd hm hi hI1
      simp_all [gArr]
    have hA : r8gA u u.arrays 0 = false := by rw [hI1, hd]; simp only [r8gA, hx, Bool.false_and]
    simp only [z0s, hA, Bool.false_and]
   refine yV rfl rfl (lEA rfl rfl uT25 rfl tS25 (lb rfl)) <| sm 2 rfl <| WL.yes rfl rfl rfl rfl rfl rfl (z1f (z83 _ _) ent51 rfl rfl (sRf _ _) rfl) <| sm 4 rfl ?_
   refine wS 42 rfl (fun hb42 => ?_) fun hb42 => ?_
   ·refine sm 6 rfl <| nL <| Tr.condT rfl <| tQ <| tG <| sm 1 rfl <| nL <| tRt <| rOk rfl ?_ nPo
    have hx : gArr u x k = false := by
      clear hd hm hi hI1
      simp_all [gArr]
    have hA : r8gA u u.arrays 0 = false := by rw [hI1, hd]; simp only [r8gA, hx, Bool.false_and]
    simp only [z0s, hA, Bool.false_and]
   refine yV rfl rfl (lEA rfl rfl uT25 rfl tS25 (lb rfl)) <| sm 2 rfl <| WL.yes rfl rfl rfl rfl rfl rfl (z1f (z53 _ _) y2t rfl rfl (sRf _ _) rfl) <| sm 2 rfl <| nL ?_
   refine tC rfl (fun hc48 => ?_) fun hc48 => ?_
   ·refine tQ <| tG <| sm 1 rfl <| nL <| tRt <| rOk rfl ?_ nPo
    have hx : gArr u x k = false := by
      clear hd hm hi hI1
      simp_all [gArr]
    have hA : r8gA u u.arrays 0 = false := by rw [hI1, hd]; simp only [r8gA, hx, Bool.false_and]
    simp only [z0s, hA, Bool.false_and]
   refine tSk <| tG <| sm 1 rfl <| cV rfl (oB rfl rfl (z03 rfl oM0)) <| sm 1 rfl <| nL ?_
   refine ⟨_, _, ?_, Sub.of (fr' := [(3, iInt (k + 1)), (1, .pv (.ept [arrs u.arrays, flws u.flows] 0))]) ⟨rfl, rfl, trivial⟩, (k + 1), ?_, ?_, rfl, rfl, rfl⟩
   ·omega
   ·omega
   rw [hI1, hd]
   have hx : gArr u x k = true := by
     clear hd hm hi hI1
     simp_all [gArr]
   simp only [r8gA, hx, Bool.true_and]
   rfl
  refine tEx <| tQ <| tQ ?_
  have hA : r8gA u u.arrays 0 = true := by
    rw [hI1, List.drop_eq_nil_of_le (by simpa using hc12)]; rfl
  refine tG <| sm 1 rfl <| nL <| tBk <| Tr.sub (Sub.of (fr' := [(5, iInt 0), (1, .pv (.ept [arrs u.arrays, flws u.flows] 0))]) ⟨rfl, rfl, trivial⟩) ?_
  refine Tr.loop (fun fr σ m => ∃ (k : Nat), (k <= u.flows.length) /\ (r8gF u u.flows 0 = r8gF u (u.flows.drop k) k) /\ fr = [(5, iInt k), (1, .pv (.ept [arrs u.arrays, flws u.flows] 0))] /\ σ = look [] /\ m = u.flows.length - k) (n := u.flows.length - 0) ?_ ?_
  ·exact ⟨0, Nat.zero_le _, rfl, rfl, rfl, rfl⟩
  rintro fr σ m ⟨k, hJ0, hJ1, rfl, rfl, rfl⟩
  refine tQ <| tQ <| tG <| sm 3 rfl ?_
  refine WL.lenOf (t := 51) rfl (fun hl2 => ?_)
  simp only [List.length_map] at hl2
  refine cV rfl (oSm uT23 rfl) <| sm 1 rfl <| nL ?_
  refine tC rfl (fun hc53 => ?_) fun hc53 => ?_
  ·have hlt : k < u.flows.length := by simpa using hc53
   have hd := List.drop_eq_getElem_cons hlt
   have hm := List.getElem_mem hlt
   have hi := z0a (f := Fl.enc) (List.getElem?_eq_getElem hlt)
   generalize u.flows[k] = x at hd hm hi
   refine tSk <| tQ <| tBk <| tQ <| tG <| sm 3 rfl <| cV rfl (iSq rfl rfl rfl uT23 hi tS51 rfl (by rfl)) <| cV rfl (lEA rfl rfl Tryz.underlying51 rfl tS51 (lb rfl)) <| cE rfl (aLc (k := 106) rfl tZ51 rfl rfl rfl rfl) <| c0 (sBA rfl rfl rfl rfl rfl ((fun h => h)) tS51 (flk rfl) (lb rfl)) <| nL <| tQ ?_
   refine Tr.freezeBox (t := 6) (k := 106) rfl rfl rfl <| Tr.heap (σ' := look []) (fun k => by simp only [look]; cases Nat.beq 106 k <;> rfl) <| tG <| sm 2 rfl <| cE rfl (ocq (zy2 _) ent50 rfl rfl) <| sm 2 rfl ?_
   refine wS 65 rfl (fun hb65 => ?_) fun hb65 => ?_
   ·refine sm 12 rfl <| nUu rfl rfl rfl rfl rfl rfl <| nUu rfl rfl rfl rfl rfl rfl <| nUu rfl rfl rfl rfl rfl rfl <| sm 15 rfl <| nL <| Tr.condT rfl <| tQ <| tG <| sm 1 rfl <| nL <| tRt <| rOk rfl ?_ nPo
    have hx : gFlw u x k = false := by
      clear hd hm hi hJ1
      simp_all [gFlw]
    have hF : r8gF u u.flows 0 = false := by rw [hJ1, hd]; simp only [r8gF, hx, Bool.false_and]
    simp only [z0s, hF, Bool.false_and, Bool.and_false]
   refine yV rfl rfl (lEA rfl rfl uT25 rfl tS25 (lb rfl)) <| sm 2 rfl <| WL.yes rfl rfl rfl rfl rfl rfl (z1f (z53 _ _) y2t rfl rfl (sRf _ _) rfl) <| sm 4 rfl ?_
   refine wS 73 rfl (fun hb73 => ?_) fun hb73 => ?_
   ·refine sm 4 rfl <| nUu rfl rfl rfl rfl rfl rfl <| nUu rfl rfl rfl rfl rfl rfl <| nUu rfl rfl rfl rfl rfl rfl <| sm 15 rfl <| nL <| Tr.condT rfl <| tQ <| tG <| sm 1 rfl <| nL <| tRt <| rOk rfl ?_ nPo
    have hx : gFlw u x k = false := by
      clear hd hm hi hJ1
      simp_all [gFlw]
    have hF : r8gF u u.flows 0 = false := by rw [hJ1, hd]; simp only [r8gF, hx, Bool.false_and]
    simp only [z0s, hF, Bool.false_and, Bool.and_false]
   refine sm 4 rfl ?_
   refine wS 77 rfl (fun hb77 => ?_) fun hb77 => ?_
   ·refine sm 6 rfl ?_
    refine wS 83 rfl (fun hb83 => ?_) fun hb83 => ?_
    ·refine sm 12 rfl <| nL <| Tr.condT rfl <| tQ <| tG <| sm 1 rfl <| nL <| tRt <| rOk rfl ?_ nPo
     have hx : gFlw u x k = false := by
       clear hd hm hi hJ1
       simp_all [gFlw]
     have hF : r8gF u u.flows 0 = false := by rw [hJ1, hd]; simp only [r8gF, hx, Bool.false_and]
     simp only [z0s, hF, Bool.false_and, Bool.and_false]
    refine sm 5 rfl ?_
    refine wS 88 rfl (fun hb88 => ?_) fun hb88 => ?_
    ·refine sm 7 rfl <| nL <| Tr.condT rfl <| tQ <| tG <| sm 1 rfl <| nL <| tRt <| rOk rfl ?_ nPo
     have hx : gFlw u x k = false := by
       clear hd hm hi hJ1
       simp_all [gFlw]
     have hF : r8gF u u.flows 0 = false := by rw [hJ1, hd]; simp only [r8gF, hx, Bool.false_and]
     simp only [z0s, hF, Bool.false_and, Bool.and_false]
    refine sm 4 rfl <| yV rfl rfl (oSm uT35 rfl) <| sm 2 rfl <| nL ?_
    refine tC rfl (fun hc95 => ?_) fun hc95 => ?_
    ·refine tQ <| tG <| sm 1 rfl <| nL <| tRt <| rOk rfl ?_ nPo
     have hx : gFlw u x k = false := by
       clear hd hm hi hJ1
       simp_all [gFlw]
     have hF : r8gF u u.flows 0 = false := by rw [hJ1, hd]; simp only [r8gF, hx, Bool.false_and]
     simp only [z0s, hF, Bool.false_and, Bool.and_false]
    refine tSk <| tG <| sm 1 rfl <| cV rfl (oB rfl rfl (z03 rfl oM0)) <| sm 1 rfl <| nL ?_
    refine ⟨_, _, ?_, Sub.of (fr' := [(5, iInt (k + 1)), (1, .pv (.ept [arrs u.arrays, flws u.flows] 0))]) ⟨rfl, rfl, trivial⟩, (k + 1), ?_, ?_, rfl, rfl, rfl⟩
    ·omega
    ·omega
    rw [hJ1, hd]
    have hx : gFlw u x k = true := by
      clear hd hm hi hJ1
      simp_all [gFlw]
    simp only [r8gF, hx, Bool.true_and]
    rfl
   refine sm 11 rfl ?_
   refine wS 88 rfl (fun hb88 => ?_) fun hb88 => ?_
   ·refine sm 7 rfl <| nL <| Tr.condT rfl <| tQ <| tG <| sm 1 rfl <| nL <| tRt <| rOk rfl ?_ nPo
    have hx : gFlw u x k = false := by
      clear hd hm hi hJ1
      simp_all [gFlw]
    have hF : r8gF u u.flows 0 = false := by rw [hJ1, hd]; simp only [r8gF, hx, Bool.false_and]
    simp only [z0s, hF, Bool.false_and, Bool.and_false]
   refine sm 4 rfl <| yV rfl rfl (oSm uT35 rfl) <| sm 2 rfl <| nL ?_
   refine tC rfl (fun hc95 => ?_) fun hc95 => ?_
   ·refine tQ <| tG <| sm 1 rfl <| nL <| tRt <| rOk rfl ?_ nPo
    have hx : gFlw u x k = false := by
      clear hd hm hi hJ1
      simp_all [gFlw]
    have hF : r8gF u u.flows 0 = false := by rw [hJ1, hd]; simp only [r8gF, hx, Bool.false_and]
    simp only [z0s, hF, Bool.false_and, Bool.and_false]
   refine tSk <| tG <| sm 1 rfl <| cV rfl (oB rfl rfl (z03 rfl oM0)) <| sm 1 rfl <| nL ?_
   refine ⟨_, _, ?_, Sub.of (fr' := [(5, iInt (k + 1)), (1, .pv (.ept [arrs u.arrays, flws u.flows] 0))]) ⟨rfl, rfl, trivial⟩, (k + 1), ?_, ?_, rfl, rfl, rfl⟩
   ·omega
   ·omega
   rw [hJ1, hd]
   have hx : gFlw u x k = true := by
     clear hd hm hi hJ1
     simp_all [gFlw]
   simp only [r8gF, hx, Bool.true_and]
   rfl
  refine tEx <| tQ ?_
  have hF : r8gF u u.flows 0 = true := by
    rw [hJ1, List.drop_eq_nil_of_le (by simpa using hc53)]; rfl
  refine tG <| cV rfl (lEA rfl rfl uT25 rfl tS25 (lb rfl)) <| cE rfl (ocq (z53 _ z1t) y2t rfl rfl) <| sm 1 rfl <| nL <| tQ <| tG <| sm 3 rfl ?_
  refine wS 100 rfl (fun hb100 => ?_) fun hb100 => ?_
  ·have hk0 : z07 z1t u.flows 0 ≥ 0 := by simpa using hb100
   obtain ⟨g, hgk, _⟩ := z6c hk0
   have hgi : (u.flows.map Fl.enc)[(z07 z1t u.flows 0).toNat]? = some g.enc := z0a hgk
   have hgd : u.flows.getD (z07 z1t u.flows 0).toNat zu7 = g := by simp [List.getD, hgk]
   refine sm 3 rfl <| yV rfl rfl (iSq rfl rfl rfl uT23 hgi tS51 rfl oM0) <| sm 5 rfl ?_
   refine wS 109 rfl (fun hb109 => ?_) fun hb109 => ?_
   ·refine sm 3 rfl <| yV rfl rfl (iSq rfl rfl rfl uT23 hgi tS51 rfl oM0) <| sm 5 rfl <| nL <| tRt <| rOk rfl ?_ nPo
    refine congrArg (fun b => iBool b) ?_
    simp only [z0s, hA, hF, z8i, Bool.true_and]
    simp_all
   refine sm 9 rfl <| nL <| tRt <| rOk rfl ?_ nPo
   refine congrArg (fun b => iBool b) ?_
   simp only [z0s, hA, hF, z8i, Bool.true_and]
   simp_all
  refine sm 18 rfl <| nL <| tRt <| rOk rfl ?_ nPo
  refine congrArg (fun b => iBool b) ?_
  simp only [z0s, hA, hF, z8i, Bool.true_and]
  (simp_all; intro h; omega)
theorem zb0 (u : Un) (hW : z0r u <= 536870912) : SC Tryz.prog 19 [.pv u.enc] [] (fun _ => False) (.tup [iInt (z27 u).1, iInt (z27 u).2]) [] := by
  refine SC.of Tryz.func19 rfl (lb rfl) fun F ρ w => ?_
  refine tQ <| tG <| cE rfl (z1c rfl rfl) <| sm 2 rfl <| nL <| tQ <| tQ <| tG <| cV rfl (lEA rfl rfl uT25 rfl tS25 (lb rfl)) <| cE rfl (ocq (zy3 u) ent32 rfl rfl) <| sm 1 rfl <| nL ?_
  refine tC rfl (fun hc7 => ?_) fun hc7 => ?_
  ·refine tQ <| tG <| sm 2 rfl <| nL <| tRt <| rOk rfl ?_ nPo
   have hg : z0s u = false := by simpa using hc7
   simp [z27, hg]
  have hg : z0s u = true := by simpa using hc7
  refine tSk <| tQ <| tQ <| tG <| sm 1 rfl <| nL <| tBk <| Tr.sub (Sub.of (fr' := [(4, iInt 0), (1, .pv (.ept [arrs u.arrays, flws u.flows] 0))]) ⟨rfl, rfl, trivial⟩) ?_
  refine Tr.loop (fun fr σ m => ∃ (k : Nat), (k <= u.flows.length) /\ (z3u u u.flows 0 = z3u u (u.flows.drop k) k) /\ fr = [(4, iInt k), (1, .pv (.ept [arrs u.arrays, flws u.flows] 0))] /\ σ = look [] /\ m = u.flows.length - k) (n := u.flows.length - 0) ?_ ?_
  ·exact ⟨0, Nat.zero_le _, rfl, rfl, rfl, rfl⟩
  rintro fr σ m ⟨k, hI0, hI1, rfl, rfl, rfl⟩
  refine tQ <| tQ <| tG <| sm 3 rfl ?_
  refine WL.lenOf (t := 10) rfl (fun hl1 => ?_)
  simp only [List.length_map] at hl1
  refine cV rfl (oSm uT23 rfl) <| sm 1 rfl <| nL ?_
  refine tC rfl (fun hc12 => ?_) fun hc12 => ?_
  ·have hlt : k < u.flows.length := by simpa using hc12
   have hd := List.drop_eq_getElem_cons hlt
   have hm := List.getElem_mem hlt
   have hi := z0a (f := Fl.enc) (List.getElem?_eq_getElem hlt)
   generalize u.flows[k] = x at hd hm hi
   refine tSk <| tQ <| tBk <| tQ <| tDr z1b (fun k => k ∈ ([] : List Nat)) <| wR 2 [0, 1, 2, 3, 4, 5] kR0 h30 <| rV rfl rfl (lEA rfl rfl uT25 rfl tS25 (lb rfl)) <| smR 3 rfl <| rV rfl rfl (iSq rfl rfl rfl uT23 hi tS51 rfl (by rfl)) <| rV rfl rfl (lEA rfl rfl Tryz.underlying51 rfl tS51 (lb rfl)) <| nR <| wO 6 kR0 ?_
   refine wI rfl rfl nf nw (fun _ _ => ocq (y6e u x (z72 hg) (y0j hW hm)) ent33 rfl rfl) <| wR 0 [7] kR0 h30 <| smR 1 rfl <| nR <| wDn kR0 ?_
   refine tC rfl (fun hc22 => ?_) fun hc22 => ?_
   ·refine tQ <| tG <| sm 3 rfl <| nL <| tRt <| rOk rfl ?_ nPo
    have hx : z2k u x = false := by simpa using hc22
    simp only [z27, hg, if_true, hI1, hd, z3u, hx, Bool.false_eq_true, if_false]
   refine tSk <| tG <| sm 1 rfl <| cV rfl (oB rfl rfl (z03 rfl oM0)) <| sm 1 rfl <| nL ?_
   refine ⟨_, _, ?_, Sub.of (fr' := [(4, iInt (k + 1)), (1, .pv (.ept [arrs u.arrays, flws u.flows] 0))]) ⟨rfl, rfl, trivial⟩, (k + 1), ?_, ?_, rfl, rfl, rfl⟩
   ·omega
   ·omega
   rw [hI1, hd]
   have hx : z2k u x = true := by simpa using hc22
   simp only [z3u, hx, if_true]
   rfl
  refine tEx <| tQ <| tG <| sm 2 rfl <| nL <| tRt <| rOk rfl ?_ nPo
  have hge : u.flows.length <= k := by simpa using hc12
  simp only [z27, hg, if_true, hI1, List.drop_eq_nil_of_le hge, z3u]
end Go.Proofs.YtekdhljpmflboaaGreat
