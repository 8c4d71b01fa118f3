import Derived.Test.YtpignhcdfioldaaProg
import Derived.Test.YtpignhcdfioldaaAm4
import Derived.KernelRfl

set_option autoImplicit false
set_option maxRecDepth 100000
set_option linter.unusedVariables false
namespace Go.Proofs.Ytpignhcdfioldaa
open Go Go.Abs

theorem ty1 : TOk Try.prog 1 ⟨.fn, 1, 8, .nilfn, none⟩ := TOk.mk' Try.underlying1 trivial (.nilFunc) (by kernel_rfl) rfl rfl rfl (.inl rfl)
theorem ty2 : TOk Try.prog 2 ⟨.int .i64, 1, 8, .int .i64 0, some .int⟩ := TOk.mk' Try.underlying2 rfl (.int .i64 0) (by kernel_rfl) rfl rfl rfl (.inr ⟨_, rfl, rfl, .inl rfl⟩)
theorem ty3 : TOk Try.prog 3 ⟨.int .i64, 1, 8, .int .i64 0, some .int⟩ := TOk.mk' Try.underlying3 rfl (.int .i64 0) (by kernel_rfl) rfl rfl rfl (.inr ⟨_, rfl, rfl, .inl rfl⟩)
theorem ty4 : TOk Try.prog 4 ⟨.bool, 1, 1, .bool false, some .bool⟩ := TOk.mk' Try.underlying4 trivial (.bool false) (by kernel_rfl) rfl rfl rfl (.inr ⟨_, rfl, rfl, .inl rfl⟩)
theorem ty5 : TOk Try.prog 5 ⟨.int .u8, 1, 1, .int .u8 0, some .u8⟩ := TOk.mk' Try.underlying5 rfl (.int .u8 0) (by kernel_rfl) rfl rfl rfl (.inr ⟨_, rfl, rfl, .inl rfl⟩)
theorem ty9 : TOk Try.prog 9 ⟨.str, 1, 16, .str [], some .str⟩ := TOk.mk' Try.underlying9 trivial (.string ByteArray.empty) (by kernel_rfl) rfl rfl rfl (.inr ⟨_, rfl, rfl, .inl rfl⟩)
theorem ty12 : TOk Try.prog 12 ⟨.int .u64, 1, 8, .int .u64 0, none⟩ := TOk.mk' Try.underlying12 rfl (.int .u64 0) (by kernel_rfl) rfl rfl rfl (.inl rfl)
theorem ty21 : TOk Try.prog 21 ⟨.int .i32, 1, 4, .int .i32 0, none⟩ := TOk.mk' Try.underlying21 rfl (.int .i32 0) (by kernel_rfl) rfl rfl rfl (.inl rfl)
theorem ty22 : TOk Try.prog 22 ⟨.slice 5, 1, 24, .nilsl, some (.list .u8)⟩ := TOk.mk' Try.underlying22 rfl (.slice none 0 0) (by kernel_rfl) rfl rfl rfl (.inr ⟨_, rfl, rfl, .inr ⟨_, rfl, rfl⟩⟩)
theorem ty23 : TOk Try.prog 23 ⟨.fn, 1, 8, .nilfn, none⟩ := TOk.mk' Try.underlying23 trivial (.nilFunc) (by kernel_rfl) rfl rfl rfl (.inl rfl)
theorem ty25 : TOk Try.prog 25 ⟨.fn, 1, 8, .nilfn, none⟩ := TOk.mk' Try.underlying25 trivial (.nilFunc) (by kernel_rfl) rfl rfl rfl (.inl rfl)
theorem ty27 : TOk Try.prog 27 ⟨.fn, 1, 8, .nilfn, none⟩ := TOk.mk' Try.underlying27 trivial (.nilFunc) (by kernel_rfl) rfl rfl rfl (.inl rfl)
theorem ty28 : TOk Try.prog 28 ⟨.struct [(0, 3), (1, 3)], 2, 16, .agg [.int .i64 0, .int .i64 0], none⟩ := TOk.mk' Try.underlying28 rfl (.agg #[.int .i64 0, .int .i64 0]) (by kernel_rfl) rfl rfl rfl (.inl rfl)
theorem eq28 : EqOk Try.prog 28 := ⟨by kernel_rfl, by kernel_rfl, fun fields h => by rw [Try.underlying28] at h; cases h; decide⟩
theorem ty29 : TOk Try.prog 29 ⟨.struct [(0, 3), (1, 3)], 2, 16, .agg [.int .i64 0, .int .i64 0], none⟩ := TOk.mk' Try.underlying29 rfl (.agg #[.int .i64 0, .int .i64 0]) (by kernel_rfl) rfl rfl rfl (.inl rfl)
theorem eq29 : EqOk Try.prog 29 := ⟨by kernel_rfl, by kernel_rfl, fun fields h => by rw [Try.underlying29] at h; cases h; decide⟩
theorem ty31 : TOk Try.prog 31 ⟨.fn, 1, 8, .nilfn, none⟩ := TOk.mk' Try.underlying31 trivial (.nilFunc) (by kernel_rfl) rfl rfl rfl (.inl rfl)
theorem ty32 : TOk Try.prog 32 ⟨.fn, 1, 8, .nilfn, none⟩ := TOk.mk' Try.underlying32 trivial (.nilFunc) (by kernel_rfl) rfl rfl rfl (.inl rfl)
theorem ty33 : TOk Try.prog 33 ⟨.fn, 1, 8, .nilfn, none⟩ := TOk.mk' Try.underlying33 trivial (.nilFunc) (by kernel_rfl) rfl rfl rfl (.inl rfl)
theorem ty34 : TOk Try.prog 34 ⟨.fn, 1, 8, .nilfn, none⟩ := TOk.mk' Try.underlying34 trivial (.nilFunc) (by kernel_rfl) rfl rfl rfl (.inl rfl)
theorem ty36 : TOk Try.prog 36 ⟨.fn, 1, 8, .nilfn, none⟩ := TOk.mk' Try.underlying36 trivial (.nilFunc) (by kernel_rfl) rfl rfl rfl (.inl rfl)
theorem ty37 : TOk Try.prog 37 ⟨.slice 52, 1, 24, .nilsl, some (.list .tile)⟩ := TOk.mk' Try.underlying37 rfl (.slice none 0 0) (by kernel_rfl) rfl rfl rfl (.inr ⟨_, rfl, rfl, .inr ⟨_, rfl, rfl⟩⟩)
theorem ty38 : TOk Try.prog 38 ⟨.fn, 1, 8, .nilfn, none⟩ := TOk.mk' Try.underlying38 trivial (.nilFunc) (by kernel_rfl) rfl rfl rfl (.inl rfl)
theorem ty39 : TOk Try.prog 39 ⟨.slice 42, 1, 24, .nilsl, some (.list (.list .int))⟩ := TOk.mk' Try.underlying39 rfl (.slice none 0 0) (by kernel_rfl) rfl rfl rfl (.inr ⟨_, rfl, rfl, .inr ⟨_, rfl, rfl⟩⟩)
theorem ty41 : TOk Try.prog 41 ⟨.fn, 1, 8, .nilfn, none⟩ := TOk.mk' Try.underlying41 trivial (.nilFunc) (by kernel_rfl) rfl rfl rfl (.inl rfl)
theorem ty42 : TOk Try.prog 42 ⟨.slice 3, 1, 24, .nilsl, some (.list .int)⟩ := TOk.mk' Try.underlying42 rfl (.slice none 0 0) (by kernel_rfl) rfl rfl rfl (.inr ⟨_, rfl, rfl, .inr ⟨_, rfl, rfl⟩⟩)
theorem ty44 : TOk Try.prog 44 ⟨.fn, 1, 8, .nilfn, none⟩ := TOk.mk' Try.underlying44 trivial (.nilFunc) (by kernel_rfl) rfl rfl rfl (.inl rfl)
theorem ty45 : TOk Try.prog 45 ⟨.fn, 1, 8, .nilfn, none⟩ := TOk.mk' Try.underlying45 trivial (.nilFunc) (by kernel_rfl) rfl rfl rfl (.inl rfl)
theorem ty46 : TOk Try.prog 46 ⟨.fn, 1, 8, .nilfn, none⟩ := TOk.mk' Try.underlying46 trivial (.nilFunc) (by kernel_rfl) rfl rfl rfl (.inl rfl)
theorem ty47 : TOk Try.prog 47 ⟨.fn, 1, 8, .nilfn, none⟩ := TOk.mk' Try.underlying47 trivial (.nilFunc) (by kernel_rfl) rfl rfl rfl (.inl rfl)
theorem ty48 : TOk Try.prog 48 ⟨.fn, 1, 8, .nilfn, none⟩ := TOk.mk' Try.underlying48 trivial (.nilFunc) (by kernel_rfl) rfl rfl rfl (.inl rfl)
theorem ty50 : TOk Try.prog 50 ⟨.fn, 1, 8, .nilfn, none⟩ := TOk.mk' Try.underlying50 trivial (.nilFunc) (by kernel_rfl) rfl rfl rfl (.inl rfl)
theorem ty51 : TOk Try.prog 51 ⟨.struct [(0, 3), (1, 3)], 2, 16, .agg [.int .i64 0, .int .i64 0], none⟩ := TOk.mk' Try.underlying51 rfl (.agg #[.int .i64 0, .int .i64 0]) (by kernel_rfl) rfl rfl rfl (.inl rfl)
theorem eq51 : EqOk Try.prog 51 := ⟨by kernel_rfl, by kernel_rfl, fun fields h => by rw [Try.underlying51] at h; cases h; decide⟩
theorem ty52 : TOk Try.prog 52 ⟨.struct [(0, 3), (1, 3)], 2, 16, .agg [.int .i64 0, .int .i64 0], some .tile⟩ := TOk.mk' Try.underlying52 rfl (.agg #[.int .i64 0, .int .i64 0]) (by kernel_rfl) rfl rfl rfl (.inr ⟨_, rfl, rfl, .inl rfl⟩)
theorem eq52 : EqOk Try.prog 52 := ⟨by kernel_rfl, by kernel_rfl, fun fields h => by rw [Try.underlying52] at h; cases h; decide⟩
theorem ty53 : TOk Try.prog 53 ⟨.fn, 1, 8, .nilfn, none⟩ := TOk.mk' Try.underlying53 trivial (.nilFunc) (by kernel_rfl) rfl rfl rfl (.inl rfl)
theorem ty54 : TOk Try.prog 54 ⟨.fn, 1, 8, .nilfn, none⟩ := TOk.mk' Try.underlying54 trivial (.nilFunc) (by kernel_rfl) rfl rfl rfl (.inl rfl)
theorem ty55 : TOk Try.prog 55 ⟨.fn, 1, 8, .nilfn, none⟩ := TOk.mk' Try.underlying55 trivial (.nilFunc) (by kernel_rfl) rfl rfl rfl (.inl rfl)
theorem ty57 : TOk Try.prog 57 ⟨.fn, 1, 8, .nilfn, none⟩ := TOk.mk' Try.underlying57 trivial (.nilFunc) (by kernel_rfl) rfl rfl rfl (.inl rfl)
theorem ty59 : TOk Try.prog 59 ⟨.fn, 1, 8, .nilfn, none⟩ := TOk.mk' Try.underlying59 trivial (.nilFunc) (by kernel_rfl) rfl rfl rfl (.inl rfl)
theorem ty60 : TOk Try.prog 60 ⟨.fn, 1, 8, .nilfn, none⟩ := TOk.mk' Try.underlying60 trivial (.nilFunc) (by kernel_rfl) rfl rfl rfl (.inl rfl)
theorem ty61 : TOk Try.prog 61 ⟨.fn, 1, 8, .nilfn, none⟩ := TOk.mk' Try.underlying61 trivial (.nilFunc) (by kernel_rfl) rfl rfl rfl (.inl rfl)
theorem ty63 : TOk Try.prog 63 ⟨.fn, 1, 8, .nilfn, none⟩ := TOk.mk' Try.underlying63 trivial (.nilFunc) (by kernel_rfl) rfl rfl rfl (.inl rfl)
theorem ty65 : TOk Try.prog 65 ⟨.fn, 1, 8, .nilfn, none⟩ := TOk.mk' Try.underlying65 trivial (.nilFunc) (by kernel_rfl) rfl rfl rfl (.inl rfl)
theorem ty66 : TOk Try.prog 66 ⟨.fn, 1, 8, .nilfn, none⟩ := TOk.mk' Try.underlying66 trivial (.nilFunc) (by kernel_rfl) rfl rfl rfl (.inl rfl)
theorem ty68 : TOk Try.prog 68 ⟨.fn, 1, 8, .nilfn, none⟩ := TOk.mk' Try.underlying68 trivial (.nilFunc) (by kernel_rfl) rfl rfl rfl (.inl rfl)
theorem ty69 : TOk Try.prog 69 ⟨.fn, 1, 8, .nilfn, none⟩ := TOk.mk' Try.underlying69 trivial (.nilFunc) (by kernel_rfl) rfl rfl rfl (.inl rfl)
theorem ty71 : TOk Try.prog 71 ⟨.fn, 1, 8, .nilfn, none⟩ := TOk.mk' Try.underlying71 trivial (.nilFunc) (by kernel_rfl) rfl rfl rfl (.inl rfl)
theorem ty72 : TOk Try.prog 72 ⟨.fn, 1, 8, .nilfn, none⟩ := TOk.mk' Try.underlying72 trivial (.nilFunc) (by kernel_rfl) rfl rfl rfl (.inl rfl)
theorem ty73 : TOk Try.prog 73 ⟨.fn, 1, 8, .nilfn, none⟩ := TOk.mk' Try.underlying73 trivial (.nilFunc) (by kernel_rfl) rfl rfl rfl (.inl rfl)
theorem ty74 : TOk Try.prog 74 ⟨.ptr, 1, 8, .nilp, none⟩ := TOk.mk' Try.underlying74 trivial (.pointer none) (by kernel_rfl) rfl rfl rfl (.inl rfl)
theorem ty75 : TOk Try.prog 75 ⟨.int .u64, 1, 8, .int .u64 0, none⟩ := TOk.mk' Try.underlying75 rfl (.int .u64 0) (by kernel_rfl) rfl rfl rfl (.inl rfl)
theorem ty76 : TOk Try.prog 76 ⟨.struct [(0, 22), (1, 3), (2, 75)], 3, 40, .agg [.nilsl, .int .i64 0, .int .u64 0], none⟩ := TOk.mk' Try.underlying76 rfl (.agg #[.slice none 0 0, .int .i64 0, .int .u64 0]) (by kernel_rfl) rfl rfl rfl (.inl rfl)
theorem eq76 : EqOk Try.prog 76 := ⟨by kernel_rfl, by kernel_rfl, fun fields h => by rw [Try.underlying76] at h; cases h; decide⟩
theorem ty77 : TOk Try.prog 77 ⟨.struct [(0, 22), (1, 3), (2, 75)], 3, 40, .agg [.nilsl, .int .i64 0, .int .u64 0], none⟩ := TOk.mk' Try.underlying77 rfl (.agg #[.slice none 0 0, .int .i64 0, .int .u64 0]) (by kernel_rfl) rfl rfl rfl (.inl rfl)
theorem eq77 : EqOk Try.prog 77 := ⟨by kernel_rfl, by kernel_rfl, fun fields h => by rw [Try.underlying77] at h; cases h; decide⟩
theorem ty78 : TOk Try.prog 78 ⟨.fn, 1, 8, .nilfn, none⟩ := TOk.mk' Try.underlying78 trivial (.nilFunc) (by kernel_rfl) rfl rfl rfl (.inl rfl)
theorem ty79 : TOk Try.prog 79 ⟨.fn, 1, 8, .nilfn, none⟩ := TOk.mk' Try.underlying79 trivial (.nilFunc) (by kernel_rfl) rfl rfl rfl (.inl rfl)
theorem ty80 : TOk Try.prog 80 ⟨.fn, 1, 8, .nilfn, none⟩ := TOk.mk' Try.underlying80 trivial (.nilFunc) (by kernel_rfl) rfl rfl rfl (.inl rfl)
theorem ty81 : TOk Try.prog 81 ⟨.fn, 1, 8, .nilfn, none⟩ := TOk.mk' Try.underlying81 trivial (.nilFunc) (by kernel_rfl) rfl rfl rfl (.inl rfl)
theorem ty82 : TOk Try.prog 82 ⟨.fn, 1, 8, .nilfn, none⟩ := TOk.mk' Try.underlying82 trivial (.nilFunc) (by kernel_rfl) rfl rfl rfl (.inl rfl)
theorem ty83 : TOk Try.prog 83 ⟨.fn, 1, 8, .nilfn, none⟩ := TOk.mk' Try.underlying83 trivial (.nilFunc) (by kernel_rfl) rfl rfl rfl (.inl rfl)
theorem ty84 : TOk Try.prog 84 ⟨.fn, 1, 8, .nilfn, none⟩ := TOk.mk' Try.underlying84 trivial (.nilFunc) (by kernel_rfl) rfl rfl rfl (.inl rfl)
theorem ty85 : TOk Try.prog 85 ⟨.fn, 1, 8, .nilfn, none⟩ := TOk.mk' Try.underlying85 trivial (.nilFunc) (by kernel_rfl) rfl rfl rfl (.inl rfl)
theorem ty86 : TOk Try.prog 86 ⟨.fn, 1, 8, .nilfn, none⟩ := TOk.mk' Try.underlying86 trivial (.nilFunc) (by kernel_rfl) rfl rfl rfl (.inl rfl)
theorem ty87 : TOk Try.prog 87 ⟨.fn, 1, 8, .nilfn, none⟩ := TOk.mk' Try.underlying87 trivial (.nilFunc) (by kernel_rfl) rfl rfl rfl (.inl rfl)
theorem ty88 : TOk Try.prog 88 ⟨.fn, 1, 8, .nilfn, none⟩ := TOk.mk' Try.underlying88 trivial (.nilFunc) (by kernel_rfl) rfl rfl rfl (.inl rfl)
theorem ty89 : TOk Try.prog 89 ⟨.fn, 1, 8, .nilfn, none⟩ := TOk.mk' Try.underlying89 trivial (.nilFunc) (by kernel_rfl) rfl rfl rfl (.inl rfl)
theorem ty90 : TOk Try.prog 90 ⟨.fn, 1, 8, .nilfn, none⟩ := TOk.mk' Try.underlying90 trivial (.nilFunc) (by kernel_rfl) rfl rfl rfl (.inl rfl)
theorem ty91 : TOk Try.prog 91 ⟨.ptr, 1, 8, .nilp, none⟩ := TOk.mk' Try.underlying91 trivial (.pointer none) (by kernel_rfl) rfl rfl rfl (.inl rfl)
theorem ty92 : TOk Try.prog 92 ⟨.fn, 1, 8, .nilfn, none⟩ := TOk.mk' Try.underlying92 trivial (.nilFunc) (by kernel_rfl) rfl rfl rfl (.inl rfl)
theorem ty93 : TOk Try.prog 93 ⟨.struct [(0, 37), (1, 3), (2, 3), (3, 42), (4, 39), (5, 42)], 6, 112, .agg [.nilsl, .int .i64 0, .int .i64 0, .nilsl, .nilsl, .nilsl], none⟩ := TOk.mk' Try.underlying93 rfl (.agg #[.slice none 0 0, .int .i64 0, .int .i64 0, .slice none 0 0, .slice none 0 0, .slice none 0 0]) (by kernel_rfl) rfl rfl rfl (.inl rfl)
theorem eq93 : EqOk Try.prog 93 := ⟨by kernel_rfl, by kernel_rfl, fun fields h => by rw [Try.underlying93] at h; cases h; decide⟩
theorem ty94 : TOk Try.prog 94 ⟨.struct [(0, 37), (1, 3), (2, 3), (3, 42), (4, 39), (5, 42)], 6, 112, .agg [.nilsl, .int .i64 0, .int .i64 0, .nilsl, .nilsl, .nilsl], none⟩ := TOk.mk' Try.underlying94 rfl (.agg #[.slice none 0 0, .int .i64 0, .int .i64 0, .slice none 0 0, .slice none 0 0, .slice none 0 0]) (by kernel_rfl) rfl rfl rfl (.inl rfl)
theorem eq94 : EqOk Try.prog 94 := ⟨by kernel_rfl, by kernel_rfl, fun fields h => by rw [Try.underlying94] at h; cases h; decide⟩
theorem ty95 : TOk Try.prog 95 ⟨.fn, 1, 8, .nilfn, none⟩ := TOk.mk' Try.underlying95 trivial (.nilFunc) (by kernel_rfl) rfl rfl rfl (.inl rfl)
theorem ty96 : TOk Try.prog 96 ⟨.fn, 1, 8, .nilfn, none⟩ := TOk.mk' Try.underlying96 trivial (.nilFunc) (by kernel_rfl) rfl rfl rfl (.inl rfl)
theorem ty97 : TOk Try.prog 97 ⟨.fn, 1, 8, .nilfn, none⟩ := TOk.mk' Try.underlying97 trivial (.nilFunc) (by kernel_rfl) rfl rfl rfl (.inl rfl)
theorem ty98 : TOk Try.prog 98 ⟨.fn, 1, 8, .nilfn, none⟩ := TOk.mk' Try.underlying98 trivial (.nilFunc) (by kernel_rfl) rfl rfl rfl (.inl rfl)
theorem ty99 : TOk Try.prog 99 ⟨.fn, 1, 8, .nilfn, none⟩ := TOk.mk' Try.underlying99 trivial (.nilFunc) (by kernel_rfl) rfl rfl rfl (.inl rfl)
theorem ty100 : TOk Try.prog 100 ⟨.fn, 1, 8, .nilfn, none⟩ := TOk.mk' Try.underlying100 trivial (.nilFunc) (by kernel_rfl) rfl rfl rfl (.inl rfl)
theorem ty101 : TOk Try.prog 101 ⟨.fn, 1, 8, .nilfn, none⟩ := TOk.mk' Try.underlying101 trivial (.nilFunc) (by kernel_rfl) rfl rfl rfl (.inl rfl)
theorem ty102 : TOk Try.prog 102 ⟨.fn, 1, 8, .nilfn, none⟩ := TOk.mk' Try.underlying102 trivial (.nilFunc) (by kernel_rfl) rfl rfl rfl (.inl rfl)
theorem ty103 : TOk Try.prog 103 ⟨.fn, 1, 8, .nilfn, none⟩ := TOk.mk' Try.underlying103 trivial (.nilFunc) (by kernel_rfl) rfl rfl rfl (.inl rfl)
theorem ty104 : TOk Try.prog 104 ⟨.fn, 1, 8, .nilfn, none⟩ := TOk.mk' Try.underlying104 trivial (.nilFunc) (by kernel_rfl) rfl rfl rfl (.inl rfl)
theorem ty105 : TOk Try.prog 105 ⟨.fn, 1, 8, .nilfn, none⟩ := TOk.mk' Try.underlying105 trivial (.nilFunc) (by kernel_rfl) rfl rfl rfl (.inl rfl)
theorem ty106 : TOk Try.prog 106 ⟨.fn, 1, 8, .nilfn, none⟩ := TOk.mk' Try.underlying106 trivial (.nilFunc) (by kernel_rfl) rfl rfl rfl (.inl rfl)
theorem ty107 : TOk Try.prog 107 ⟨.fn, 1, 8, .nilfn, none⟩ := TOk.mk' Try.underlying107 trivial (.nilFunc) (by kernel_rfl) rfl rfl rfl (.inl rfl)
theorem ty108 : TOk Try.prog 108 ⟨.fn, 1, 8, .nilfn, none⟩ := TOk.mk' Try.underlying108 trivial (.nilFunc) (by kernel_rfl) rfl rfl rfl (.inl rfl)
theorem ty109 : TOk Try.prog 109 ⟨.fn, 1, 8, .nilfn, none⟩ := TOk.mk' Try.underlying109 trivial (.nilFunc) (by kernel_rfl) rfl rfl rfl (.inl rfl)
theorem ty110 : TOk Try.prog 110 ⟨.fn, 1, 8, .nilfn, none⟩ := TOk.mk' Try.underlying110 trivial (.nilFunc) (by kernel_rfl) rfl rfl rfl (.inl rfl)
theorem ty111 : TOk Try.prog 111 ⟨.fn, 1, 8, .nilfn, none⟩ := TOk.mk' Try.underlying111 trivial (.nilFunc) (by kernel_rfl) rfl rfl rfl (.inl rfl)
theorem ty112 : TOk Try.prog 112 ⟨.fn, 1, 8, .nilfn, none⟩ := TOk.mk' Try.underlying112 trivial (.nilFunc) (by kernel_rfl) rfl rfl rfl (.inl rfl)
theorem ty113 : TOk Try.prog 113 ⟨.fn, 1, 8, .nilfn, none⟩ := TOk.mk' Try.underlying113 trivial (.nilFunc) (by kernel_rfl) rfl rfl rfl (.inl rfl)
theorem ty114 : TOk Try.prog 114 ⟨.fn, 1, 8, .nilfn, none⟩ := TOk.mk' Try.underlying114 trivial (.nilFunc) (by kernel_rfl) rfl rfl rfl (.inl rfl)
theorem ty115 : TOk Try.prog 115 ⟨.fn, 1, 8, .nilfn, none⟩ := TOk.mk' Try.underlying115 trivial (.nilFunc) (by kernel_rfl) rfl rfl rfl (.inl rfl)
theorem ty116 : TOk Try.prog 116 ⟨.slice 4, 1, 24, .nilsl, some (.list .bool)⟩ := TOk.mk' Try.underlying116 rfl (.slice none 0 0) (by kernel_rfl) rfl rfl rfl (.inr ⟨_, rfl, rfl, .inr ⟨_, rfl, rfl⟩⟩)
theorem ty117 : TOk Try.prog 117 ⟨.fn, 1, 8, .nilfn, none⟩ := TOk.mk' Try.underlying117 trivial (.nilFunc) (by kernel_rfl) rfl rfl rfl (.inl rfl)
theorem ty118 : TOk Try.prog 118 ⟨.fn, 1, 8, .nilfn, none⟩ := TOk.mk' Try.underlying118 trivial (.nilFunc) (by kernel_rfl) rfl rfl rfl (.inl rfl)
theorem ty119 : TOk Try.prog 119 ⟨.fn, 1, 8, .nilfn, none⟩ := TOk.mk' Try.underlying119 trivial (.nilFunc) (by kernel_rfl) rfl rfl rfl (.inl rfl)
theorem ty120 : TOk Try.prog 120 ⟨.fn, 1, 8, .nilfn, none⟩ := TOk.mk' Try.underlying120 trivial (.nilFunc) (by kernel_rfl) rfl rfl rfl (.inl rfl)
theorem ty121 : TOk Try.prog 121 ⟨.fn, 1, 8, .nilfn, none⟩ := TOk.mk' Try.underlying121 trivial (.nilFunc) (by kernel_rfl) rfl rfl rfl (.inl rfl)
theorem ty122 : TOk Try.prog 122 ⟨.int .u64, 1, 8, .int .u64 0, none⟩ := TOk.mk' Try.underlying122 rfl (.int .u64 0) (by kernel_rfl) rfl rfl rfl (.inl rfl)
theorem ty123 : TOk Try.prog 123 ⟨.fn, 1, 8, .nilfn, none⟩ := TOk.mk' Try.underlying123 trivial (.nilFunc) (by kernel_rfl) rfl rfl rfl (.inl rfl)
theorem ty124 : TOk Try.prog 124 ⟨.fn, 1, 8, .nilfn, none⟩ := TOk.mk' Try.underlying124 trivial (.nilFunc) (by kernel_rfl) rfl rfl rfl (.inl rfl)
theorem ty125 : TOk Try.prog 125 ⟨.fn, 1, 8, .nilfn, none⟩ := TOk.mk' Try.underlying125 trivial (.nilFunc) (by kernel_rfl) rfl rfl rfl (.inl rfl)
theorem ty134 : TOk Try.prog 134 ⟨.fn, 1, 8, .nilfn, none⟩ := TOk.mk' Try.underlying134 trivial (.nilFunc) (by kernel_rfl) rfl rfl rfl (.inl rfl)
theorem ty135 : TOk Try.prog 135 ⟨.ptr, 1, 8, .nilp, none⟩ := TOk.mk' Try.underlying135 trivial (.pointer none) (by kernel_rfl) rfl rfl rfl (.inl rfl)

def tab : List TI := [
  ⟨.other, 0, 0, .junk, none⟩, ⟨.fn, 1, 8, .nilfn, none⟩, ⟨.int .i64, 1, 8, .int .i64 0, some .int⟩, ⟨.int .i64, 1, 8, .int .i64 0, some .int⟩,
  ⟨.bool, 1, 1, .bool false, some .bool⟩, ⟨.int .u8, 1, 1, .int .u8 0, some .u8⟩, ⟨.other, 0, 0, .junk, none⟩, ⟨.other, 0, 0, .junk, none⟩,
  ⟨.other, 0, 0, .junk, none⟩, ⟨.str, 1, 16, .str [], some .str⟩, ⟨.other, 0, 0, .junk, none⟩, ⟨.other, 0, 0, .junk, none⟩,
  ⟨.int .u64, 1, 8, .int .u64 0, none⟩, ⟨.other, 0, 0, .junk, none⟩, ⟨.other, 0, 0, .junk, none⟩, ⟨.other, 0, 0, .junk, none⟩,
  ⟨.other, 0, 0, .junk, none⟩, ⟨.other, 0, 0, .junk, none⟩, ⟨.other, 0, 0, .junk, none⟩, ⟨.other, 0, 0, .junk, none⟩,
  ⟨.other, 0, 0, .junk, none⟩, ⟨.int .i32, 1, 4, .int .i32 0, none⟩, ⟨.slice 5, 1, 24, .nilsl, some (.list .u8)⟩, ⟨.fn, 1, 8, .nilfn, none⟩,
  ⟨.other, 0, 0, .junk, none⟩, ⟨.fn, 1, 8, .nilfn, none⟩, ⟨.other, 0, 0, .junk, none⟩, ⟨.fn, 1, 8, .nilfn, none⟩,
  ⟨.struct [(0, 3), (1, 3)], 2, 16, .agg [.int .i64 0, .int .i64 0], none⟩, ⟨.struct [(0, 3), (1, 3)], 2, 16, .agg [.int .i64 0, .int .i64 0], none⟩, ⟨.other, 0, 0, .junk, none⟩, ⟨.fn, 1, 8, .nilfn, none⟩,
  ⟨.fn, 1, 8, .nilfn, none⟩, ⟨.fn, 1, 8, .nilfn, none⟩, ⟨.fn, 1, 8, .nilfn, none⟩, ⟨.other, 0, 0, .junk, none⟩,
  ⟨.fn, 1, 8, .nilfn, none⟩, ⟨.slice 52, 1, 24, .nilsl, some (.list .tile)⟩, ⟨.fn, 1, 8, .nilfn, none⟩, ⟨.slice 42, 1, 24, .nilsl, some (.list (.list .int))⟩,
  ⟨.other, 0, 0, .junk, none⟩, ⟨.fn, 1, 8, .nilfn, none⟩, ⟨.slice 3, 1, 24, .nilsl, some (.list .int)⟩, ⟨.other, 0, 0, .junk, none⟩,
  ⟨.fn, 1, 8, .nilfn, none⟩, ⟨.fn, 1, 8, .nilfn, none⟩, ⟨.fn, 1, 8, .nilfn, none⟩, ⟨.fn, 1, 8, .nilfn, none⟩,
  ⟨.fn, 1, 8, .nilfn, none⟩, ⟨.other, 0, 0, .junk, none⟩, ⟨.fn, 1, 8, .nilfn, none⟩, ⟨.struct [(0, 3), (1, 3)], 2, 16, .agg [.int .i64 0, .int .i64 0], none⟩,
  ⟨.struct [(0, 3), (1, 3)], 2, 16, .agg [.int .i64 0, .int .i64 0], some .tile⟩, ⟨.fn, 1, 8, .nilfn, none⟩, ⟨.fn, 1, 8, .nilfn, none⟩, ⟨.fn, 1, 8, .nilfn, none⟩,
  ⟨.other, 0, 0, .junk, none⟩, ⟨.fn, 1, 8, .nilfn, none⟩, ⟨.other, 0, 0, .junk, none⟩, ⟨.fn, 1, 8, .nilfn, none⟩,
  ⟨.fn, 1, 8, .nilfn, none⟩, ⟨.fn, 1, 8, .nilfn, none⟩, ⟨.other, 0, 0, .junk, none⟩, ⟨.fn, 1, 8, .nilfn, none⟩,
  ⟨.other, 0, 0, .junk, none⟩, ⟨.fn, 1, 8, .nilfn, none⟩, ⟨.fn, 1, 8, .nilfn, none⟩, ⟨.other, 0, 0, .junk, none⟩,
  ⟨.fn, 1, 8, .nilfn, none⟩, ⟨.fn, 1, 8, .nilfn, none⟩, ⟨.other, 0, 0, .junk, none⟩, ⟨.fn, 1, 8, .nilfn, none⟩,
  ⟨.fn, 1, 8, .nilfn, none⟩, ⟨.fn, 1, 8, .nilfn, none⟩, ⟨.ptr, 1, 8, .nilp, none⟩, ⟨.int .u64, 1, 8, .int .u64 0, none⟩,
  ⟨.struct [(0, 22), (1, 3), (2, 75)], 3, 40, .agg [.nilsl, .int .i64 0, .int .u64 0], none⟩, ⟨.struct [(0, 22), (1, 3), (2, 75)], 3, 40, .agg [.nilsl, .int .i64 0, .int .u64 0], none⟩, ⟨.fn, 1, 8, .nilfn, none⟩, ⟨.fn, 1, 8, .nilfn, none⟩,
  ⟨.fn, 1, 8, .nilfn, none⟩, ⟨.fn, 1, 8, .nilfn, none⟩, ⟨.fn, 1, 8, .nilfn, none⟩, ⟨.fn, 1, 8, .nilfn, none⟩,
  ⟨.fn, 1, 8, .nilfn, none⟩, ⟨.fn, 1, 8, .nilfn, none⟩, ⟨.fn, 1, 8, .nilfn, none⟩, ⟨.fn, 1, 8, .nilfn, none⟩,
  ⟨.fn, 1, 8, .nilfn, none⟩, ⟨.fn, 1, 8, .nilfn, none⟩, ⟨.fn, 1, 8, .nilfn, none⟩, ⟨.ptr, 1, 8, .nilp, none⟩,
  ⟨.fn, 1, 8, .nilfn, none⟩, ⟨.struct [(0, 37), (1, 3), (2, 3), (3, 42), (4, 39), (5, 42)], 6, 112, .agg [.nilsl, .int .i64 0, .int .i64 0, .nilsl, .nilsl, .nilsl], none⟩, ⟨.struct [(0, 37), (1, 3), (2, 3), (3, 42), (4, 39), (5, 42)], 6, 112, .agg [.nilsl, .int .i64 0, .int .i64 0, .nilsl, .nilsl, .nilsl], none⟩, ⟨.fn, 1, 8, .nilfn, none⟩,
  ⟨.fn, 1, 8, .nilfn, none⟩, ⟨.fn, 1, 8, .nilfn, none⟩, ⟨.fn, 1, 8, .nilfn, none⟩, ⟨.fn, 1, 8, .nilfn, none⟩,
  ⟨.fn, 1, 8, .nilfn, none⟩, ⟨.fn, 1, 8, .nilfn, none⟩, ⟨.fn, 1, 8, .nilfn, none⟩, ⟨.fn, 1, 8, .nilfn, none⟩,
  ⟨.fn, 1, 8, .nilfn, none⟩, ⟨.fn, 1, 8, .nilfn, none⟩, ⟨.fn, 1, 8, .nilfn, none⟩, ⟨.fn, 1, 8, .nilfn, none⟩,
  ⟨.fn, 1, 8, .nilfn, none⟩, ⟨.fn, 1, 8, .nilfn, none⟩, ⟨.fn, 1, 8, .nilfn, none⟩, ⟨.fn, 1, 8, .nilfn, none⟩,
  ⟨.fn, 1, 8, .nilfn, none⟩, ⟨.fn, 1, 8, .nilfn, none⟩, ⟨.fn, 1, 8, .nilfn, none⟩, ⟨.fn, 1, 8, .nilfn, none⟩,
  ⟨.slice 4, 1, 24, .nilsl, some (.list .bool)⟩, ⟨.fn, 1, 8, .nilfn, none⟩, ⟨.fn, 1, 8, .nilfn, none⟩, ⟨.fn, 1, 8, .nilfn, none⟩,
  ⟨.fn, 1, 8, .nilfn, none⟩, ⟨.fn, 1, 8, .nilfn, none⟩, ⟨.int .u64, 1, 8, .int .u64 0, none⟩, ⟨.fn, 1, 8, .nilfn, none⟩,
  ⟨.fn, 1, 8, .nilfn, none⟩, ⟨.fn, 1, 8, .nilfn, none⟩, ⟨.other, 0, 0, .junk, none⟩, ⟨.other, 0, 0, .junk, none⟩,
  ⟨.other, 0, 0, .junk, none⟩, ⟨.other, 0, 0, .junk, none⟩, ⟨.other, 0, 0, .junk, none⟩, ⟨.other, 0, 0, .junk, none⟩,
  ⟨.other, 0, 0, .junk, none⟩, ⟨.other, 0, 0, .junk, none⟩, ⟨.fn, 1, 8, .nilfn, none⟩, ⟨.ptr, 1, 8, .nilp, none⟩,
  ⟨.other, 0, 0, .junk, none⟩, ⟨.other, 0, 0, .junk, none⟩, ⟨.other, 0, 0, .junk, none⟩, ⟨.other, 0, 0, .junk, none⟩,
  ⟨.other, 0, 0, .junk, none⟩]

theorem tab_ok : AllT (fun t i => i.d.agg = false ∧ i.sz = 0 ∨ TOk Try.prog t i) 0 tab :=
  (.cons (.inl ⟨rfl, rfl⟩)
  (.cons (.inr ty1)
  (.cons (.inr ty2)
  (.cons (.inr ty3)
  (.cons (.inr ty4)
  (.cons (.inr ty5)
  (.cons (.inl ⟨rfl, rfl⟩)
  (.cons (.inl ⟨rfl, rfl⟩)
  (.cons (.inl ⟨rfl, rfl⟩)
  (.cons (.inr ty9)
  (.cons (.inl ⟨rfl, rfl⟩)
  (.cons (.inl ⟨rfl, rfl⟩)
  (.cons (.inr ty12)
  (.cons (.inl ⟨rfl, rfl⟩)
  (.cons (.inl ⟨rfl, rfl⟩)
  (.cons (.inl ⟨rfl, rfl⟩)
  (.cons (.inl ⟨rfl, rfl⟩)
  (.cons (.inl ⟨rfl, rfl⟩)
  (.cons (.inl ⟨rfl, rfl⟩)
  (.cons (.inl ⟨rfl, rfl⟩)
  (.cons (.inl ⟨rfl, rfl⟩)
  (.cons (.inr ty21)
  (.cons (.inr ty22)
  (.cons (.inr ty23)
  (.cons (.inl ⟨rfl, rfl⟩)
  (.cons (.inr ty25)
  (.cons (.inl ⟨rfl, rfl⟩)
  (.cons (.inr ty27)
  (.cons (.inr ty28)
  (.cons (.inr ty29)
  (.cons (.inl ⟨rfl, rfl⟩)
  (.cons (.inr ty31)
  (.cons (.inr ty32)
  (.cons (.inr ty33)
  (.cons (.inr ty34)
  (.cons (.inl ⟨rfl, rfl⟩)
  (.cons (.inr ty36)
  (.cons (.inr ty37)
  (.cons (.inr ty38)
  (.cons (.inr ty39)
  (.cons (.inl ⟨rfl, rfl⟩)
  (.cons (.inr ty41)
  (.cons (.inr ty42)
  (.cons (.inl ⟨rfl, rfl⟩)
  (.cons (.inr ty44)
  (.cons (.inr ty45)
  (.cons (.inr ty46)
  (.cons (.inr ty47)
  (.cons (.inr ty48)
  (.cons (.inl ⟨rfl, rfl⟩)
  (.cons (.inr ty50)
  (.cons (.inr ty51)
  (.cons (.inr ty52)
  (.cons (.inr ty53)
  (.cons (.inr ty54)
  (.cons (.inr ty55)
  (.cons (.inl ⟨rfl, rfl⟩)
  (.cons (.inr ty57)
  (.cons (.inl ⟨rfl, rfl⟩)
  (.cons (.inr ty59)
  (.cons (.inr ty60)
  (.cons (.inr ty61)
  (.cons (.inl ⟨rfl, rfl⟩)
  (.cons (.inr ty63)
  (.cons (.inl ⟨rfl, rfl⟩)
  (.cons (.inr ty65)
  (.cons (.inr ty66)
  (.cons (.inl ⟨rfl, rfl⟩)
  (.cons (.inr ty68)
  (.cons (.inr ty69)
  (.cons (.inl ⟨rfl, rfl⟩)
  (.cons (.inr ty71)
  (.cons (.inr ty72)
  (.cons (.inr ty73)
  (.cons (.inr ty74)
  (.cons (.inr ty75)
  (.cons (.inr ty76)
  (.cons (.inr ty77)
  (.cons (.inr ty78)
  (.cons (.inr ty79)
  (.cons (.inr ty80)
  (.cons (.inr ty81)
  (.cons (.inr ty82)
  (.cons (.inr ty83)
  (.cons (.inr ty84)
  (.cons (.inr ty85)
  (.cons (.inr ty86)
  (.cons (.inr ty87)
  (.cons (.inr ty88)
  (.cons (.inr ty89)
  (.cons (.inr ty90)
  (.cons (.inr ty91)
  (.cons (.inr ty92)
  (.cons (.inr ty93)
  (.cons (.inr ty94)
  (.cons (.inr ty95)
  (.cons (.inr ty96)
  (.cons (.inr ty97)
  (.cons (.inr ty98)
  (.cons (.inr ty99)
  (.cons (.inr ty100)
  (.cons (.inr ty101)
  (.cons (.inr ty102)
  (.cons (.inr ty103)
  (.cons (.inr ty104)
  (.cons (.inr ty105)
  (.cons (.inr ty106)
  (.cons (.inr ty107)
  (.cons (.inr ty108)
  (.cons (.inr ty109)
  (.cons (.inr ty110)
  (.cons (.inr ty111)
  (.cons (.inr ty112)
  (.cons (.inr ty113)
  (.cons (.inr ty114)
  (.cons (.inr ty115)
  (.cons (.inr ty116)
  (.cons (.inr ty117)
  (.cons (.inr ty118)
  (.cons (.inr ty119)
  (.cons (.inr ty120)
  (.cons (.inr ty121)
  (.cons (.inr ty122)
  (.cons (.inr ty123)
  (.cons (.inr ty124)
  (.cons (.inr ty125)
  (.cons (.inl ⟨rfl, rfl⟩)
  (.cons (.inl ⟨rfl, rfl⟩)
  (.cons (.inl ⟨rfl, rfl⟩)
  (.cons (.inl ⟨rfl, rfl⟩)
  (.cons (.inl ⟨rfl, rfl⟩)
  (.cons (.inl ⟨rfl, rfl⟩)
  (.cons (.inl ⟨rfl, rfl⟩)
  (.cons (.inl ⟨rfl, rfl⟩)
  (.cons (.inr ty134)
  (.cons (.inr ty135)
  (.cons (.inl ⟨rfl, rfl⟩)
  (.cons (.inl ⟨rfl, rfl⟩)
  (.cons (.inl ⟨rfl, rfl⟩)
  (.cons (.inl ⟨rfl, rfl⟩)
  (.cons (.inl ⟨rfl, rfl⟩) .nil)))))))))))))))))))))))))))))))))))))))))))))))))))))))))))))))))))))))))))))))))))))))))))))))))))))))))))))))))))))))))))))))))))))))))))))
theorem tab_eq : AllT (fun t i => ∀ fs, i.d = .struct fs → EqOk Try.prog t) 0 tab :=
  (.cons (fun _ h => by cases h)
  (.cons (fun _ h => by cases h)
  (.cons (fun _ h => by cases h)
  (.cons (fun _ h => by cases h)
  (.cons (fun _ h => by cases h)
  (.cons (fun _ h => by cases h)
  (.cons (fun _ h => by cases h)
  (.cons (fun _ h => by cases h)
  (.cons (fun _ h => by cases h)
  (.cons (fun _ h => by cases h)
  (.cons (fun _ h => by cases h)
  (.cons (fun _ h => by cases h)
  (.cons (fun _ h => by cases h)
  (.cons (fun _ h => by cases h)
  (.cons (fun _ h => by cases h)
  (.cons (fun _ h => by cases h)
  (.cons (fun _ h => by cases h)
  (.cons (fun _ h => by cases h)
  (.cons (fun _ h => by cases h)
  (.cons (fun _ h => by cases h)
  (.cons (fun _ h => by cases h)
  (.cons (fun _ h => by cases h)
  (.cons (fun _ h => by cases h)
  (.cons (fun _ h => by cases h)
  (.cons (fun _ h => by cases h)
  (.cons (fun _ h => by cases h)
  (.cons (fun _ h => by cases h)
  (.cons (fun _ h => by cases h)
  (.cons (fun _ _ => eq28)
  (.cons (fun _ _ => eq29)
  (.cons (fun _ h => by cases h)
  (.cons (fun _ h => by cases h)
  (.cons (fun _ h => by cases h)
  (.cons (fun _ h => by cases h)
  (.cons (fun _ h => by cases h)
  (.cons (fun _ h => by cases h)
  (.cons (fun _ h => by cases h)
  (.cons (fun _ h => by cases h)
  (.cons (fun _ h => by cases h)
  (.cons (fun _ h => by cases h)
  (.cons (fun _ h => by cases h)
  (.cons (fun _ h => by cases h)
  (.cons (fun _ h => by cases h)
  (.cons (fun _ h => by cases h)
  (.cons (fun _ h => by cases h)
  (.cons (fun _ h => by cases h)
  (.cons (fun _ h => by cases h)
  (.cons (fun _ h => by cases h)
  (.cons (fun _ h => by cases h)
  (.cons (fun _ h => by cases h)
  (.cons (fun _ h => by cases h)
  (.cons (fun _ _ => eq51)
  (.cons (fun _ _ => eq52)
  (.cons (fun _ h => by cases h)
  (.cons (fun _ h => by cases h)
  (.cons (fun _ h => by cases h)
  (.cons (fun _ h => by cases h)
  (.cons (fun _ h => by cases h)
  (.cons (fun _ h => by cases h)
  (.cons (fun _ h => by cases h)
  (.cons (fun _ h => by cases h)
  (.cons (fun _ h => by cases h)
  (.cons (fun _ h => by cases h)
  (.cons (fun _ h => by cases h)
  (.cons (fun _ h => by cases h)
  (.cons (fun _ h => by cases h)
  (.cons (fun _ h => by cases h)
  (.cons (fun _ h => by cases h)
  (.cons (fun _ h => by cases h)
  (.cons (fun _ h => by cases h)
  (.cons (fun _ h => by cases h)
  (.cons (fun _ h => by cases h)
  (.cons (fun _ h => by cases h)
  (.cons (fun _ h => by cases h)
  (.cons (fun _ h => by cases h)
  (.cons (fun _ h => by cases h)
  (.cons (fun _ _ => eq76)
  (.cons (fun _ _ => eq77)
  (.cons (fun _ h => by cases h)
  (.cons (fun _ h => by cases h)
  (.cons (fun _ h => by cases h)
  (.cons (fun _ h => by cases h)
  (.cons (fun _ h => by cases h)
  (.cons (fun _ h => by cases h)
  (.cons (fun _ h => by cases h)
  (.cons (fun _ h => by cases h)
  (.cons (fun _ h => by cases h)
  (.cons (fun _ h => by cases h)
  (.cons (fun _ h => by cases h)
  (.cons (fun _ h => by cases h)
  (.cons (fun _ h => by cases h)
  (.cons (fun _ h => by cases h)
  (.cons (fun _ h => by cases h)
  (.cons (fun _ _ => eq93)
  (.cons (fun _ _ => eq94)
  (.cons (fun _ h => by cases h)
  (.cons (fun _ h => by cases h)
  (.cons (fun _ h => by cases h)
  (.cons (fun _ h => by cases h)
  (.cons (fun _ h => by cases h)
  (.cons (fun _ h => by cases h)
  (.cons (fun _ h => by cases h)
  (.cons (fun _ h => by cases h)
  (.cons (fun _ h => by cases h)
  (.cons (fun _ h => by cases h)
  (.cons (fun _ h => by cases h)
  (.cons (fun _ h => by cases h)
  (.cons (fun _ h => by cases h)
  (.cons (fun _ h => by cases h)
  (.cons (fun _ h => by cases h)
  (.cons (fun _ h => by cases h)
  (.cons (fun _ h => by cases h)
  (.cons (fun _ h => by cases h)
  (.cons (fun _ h => by cases h)
  (.cons (fun _ h => by cases h)
  (.cons (fun _ h => by cases h)
  (.cons (fun _ h => by cases h)
  (.cons (fun _ h => by cases h)
  (.cons (fun _ h => by cases h)
  (.cons (fun _ h => by cases h)
  (.cons (fun _ h => by cases h)
  (.cons (fun _ h => by cases h)
  (.cons (fun _ h => by cases h)
  (.cons (fun _ h => by cases h)
  (.cons (fun _ h => by cases h)
  (.cons (fun _ h => by cases h)
  (.cons (fun _ h => by cases h)
  (.cons (fun _ h => by cases h)
  (.cons (fun _ h => by cases h)
  (.cons (fun _ h => by cases h)
  (.cons (fun _ h => by cases h)
  (.cons (fun _ h => by cases h)
  (.cons (fun _ h => by cases h)
  (.cons (fun _ h => by cases h)
  (.cons (fun _ h => by cases h)
  (.cons (fun _ h => by cases h)
  (.cons (fun _ h => by cases h)
  (.cons (fun _ h => by cases h)
  (.cons (fun _ h => by cases h)
  (.cons (fun _ h => by cases h)
  (.cons (fun _ h => by cases h) .nil)))))))))))))))))))))))))))))))))))))))))))))))))))))))))))))))))))))))))))))))))))))))))))))))))))))))))))))))))))))))))))))))))))))))))))))

noncomputable def C : Ctx := { P := Try.prog, tab := tab, ok := fun t i h => tab_ok.at0 h, eqs := fun t i fs h => tab_eq.at0 h fs }

abbrev F.laws_FnChancesOfHands : FuncId := 3
abbrev F.laws_FnChainsListed : FuncId := 4
abbrev F.laws_FnChainsLaid : FuncId := 5
abbrev F.laws_big : FuncId := 6
abbrev F.spec_DrawCountHands : FuncId := 7
abbrev F.impl_CountHands : FuncId := 8
abbrev F.spec_CountHands : FuncId := 9
abbrev F.impl_ChanceOfTile : FuncId := 10
abbrev F.spec_ChanceOfTile : FuncId := 11
abbrev F.impl_DoublesMean : FuncId := 12
abbrev F.spec_DoublesMean : FuncId := 13
abbrev F.impl_PipsMean : FuncId := 14
abbrev F.spec_PipsMean : FuncId := 15
abbrev F.impl_ChanceOfOpening : FuncId := 16
abbrev F.spec_ChanceOfOpening : FuncId := 17
abbrev F.impl_LikeliestPips : FuncId := 18
abbrev F.spec_LikeliestPips : FuncId := 19
abbrev F.impl_ChanceOfDoubles : FuncId := 20
abbrev F.impl_ChanceOfTimes : FuncId := 21
abbrev F.laws_iTimes : FuncId := 22
abbrev F.impl_ChanceOfTiles : FuncId := 23
abbrev F.impl_ChanceWithout : FuncId := 24
abbrev F.impl_CountWithPips : FuncId := 25
abbrev F.impl_ChanceOfPips : FuncId := 26
abbrev F.spec_DrawChanceOfTiles : FuncId := 27
abbrev F.spec_ChanceOfTiles : FuncId := 28
abbrev F.spec_DrawAllChains : FuncId := 29
abbrev F.impl_AllChains : FuncId := 30
abbrev F.spec_AllChains : FuncId := 31
abbrev F.impl_CountByTiles : FuncId := 32
abbrev F.spec_CountByTiles : FuncId := 33
abbrev F.impl_LongestChain : FuncId := 34
abbrev F.spec_LongestChain : FuncId := 35
abbrev F.laws_iRows : FuncId := 36
abbrev F.laws_iSame : FuncId := 37
abbrev F.impl_IsHand : FuncId := 38
abbrev F.impl_IsChain : FuncId := 39
abbrev F.impl_TilesOfChain : FuncId := 40
abbrev F.laws_iIn : FuncId := 41
abbrev F.laws_iLess : FuncId := 42
abbrev F.impl_TurnChain : FuncId := 43
abbrev F.spec_DrawTilesOfChain : FuncId := 44
abbrev F.spec_TilesOfChain : FuncId := 45
abbrev F.impl_EndsOfChain : FuncId := 46
abbrev F.spec_EndsOfChain : FuncId := 47
abbrev F.spec_TurnChain : FuncId := 48
abbrev F.impl_ChainText : FuncId := 49
abbrev F.spec_ChainText : FuncId := 50
abbrev F.laws_iTiles : FuncId := 51
abbrev F.spec_IsChain : FuncId := 52
abbrev F.impl_ParseChain : FuncId := 53
abbrev F.impl_IsRing : FuncId := 54
abbrev F.impl_TileOf : FuncId := 55
abbrev F.impl_LayTile : FuncId := 56
abbrev F.spec_DrawSpinRing : FuncId := 57
abbrev F.impl_SpinRing : FuncId := 58
abbrev F.spec_SpinRing : FuncId := 59
abbrev F.spec_IsRing : FuncId := 60
abbrev F.spec_DrawJoinChains : FuncId := 61
abbrev F.impl_JoinChains : FuncId := 62
abbrev F.spec_JoinChains : FuncId := 63
abbrev F.spec_DrawParseChain : FuncId := 64
abbrev F.spec_ParseChain : FuncId := 65
abbrev F.spec_l1Cur_drawn : FuncId := 66
abbrev F.impl_isDrawn : FuncId := 67
abbrev F.impl_choose : FuncId := 68
abbrev F.spec_dcGood : FuncId := 69
abbrev F.spec_dcChoose : FuncId := 70
abbrev F.spec_dcTiles : FuncId := 71
abbrev F.spec_dcRatio : FuncId := 72
abbrev F.impl_ratio : FuncId := 73
abbrev F.impl_withPips : FuncId := 74
abbrev F.slices_Index_int_int : FuncId := 75
abbrev F.slices_Max_int_int : FuncId := 76
abbrev F.spec_dcPips : FuncId := 77
abbrev F.impl_within : FuncId := 78
abbrev F.impl_among : FuncId := 79
abbrev F.impl_isSum : FuncId := 80
abbrev F.spec_l1Cur_pick : FuncId := 81
abbrev F.spec_l1In : FuncId := 82
abbrev F.spec_l1Cur_one : FuncId := 83
abbrev F.spec_l1Cur_hand : FuncId := 84
abbrev F.spec_l1Cur_handOfChain : FuncId := 85
abbrev F.impl_isChained : FuncId := 86
abbrev F.impl_chains : FuncId := 87
abbrev F.impl_AllChains_1 : FuncId := 88
abbrev F.spec_haSmall : FuncId := 89
abbrev F.spec_haAll : FuncId := 90
abbrev F.impl_CountByTiles_1 : FuncId := 91
abbrev F.impl_LongestChain_1 : FuncId := 92
abbrev F.slices_ContainsFunc_impl_Tile_impl_Tile : FuncId := 93
abbrev F.impl_IsHand_1 : FuncId := 94
abbrev F.impl_IsTile : FuncId := 95
abbrev F.impl_areDifferent_impl_Tile : FuncId := 96
abbrev F.impl_areWithin : FuncId := 97
abbrev F.impl_tilesOf : FuncId := 98
abbrev F.impl_turned : FuncId := 99
abbrev F.spec_DrawIsChain : FuncId := 100
abbrev F.spec_haGood : FuncId := 101
abbrev F.spec_haTiles : FuncId := 102
abbrev F.impl_ends : FuncId := 103
abbrev F.spec_haTurn : FuncId := 104
abbrev F.impl_chainText : FuncId := 105
abbrev F.spec_haText : FuncId := 106
abbrev F.impl_isNumber : FuncId := 107
abbrev F.impl_tile : FuncId := 108
abbrev F.slices_Contains_impl_Tile_impl_Tile : FuncId := 109
abbrev F.impl_Tile_has : FuncId := 110
abbrev F.slices_Concat_int_int : FuncId := 111
abbrev F.impl_Tile_other : FuncId := 112
abbrev F.spec_l1Cur_ring : FuncId := 113
abbrev F.spec_haRing : FuncId := 114
abbrev F.spec_l1Own : FuncId := 115
abbrev F.spec_l1Cur_chain : FuncId := 116
abbrev F.spec_l1Cur_sureChain : FuncId := 117
abbrev F.spec_l1Cur_spoilt : FuncId := 118
abbrev F.spec_haParse : FuncId := 119
abbrev F.spec_l1Cur_among : FuncId := 120
abbrev F.spec_l1Least : FuncId := 121
abbrev F.impl_common : FuncId := 122
abbrev F.impl_setOf : FuncId := 123
abbrev F.spec_tiSet : FuncId := 124
abbrev F.spec_l1Cur_next : FuncId := 125
abbrev F.spec_l1Cur_sureHand : FuncId := 126
abbrev F.spec_l1Cur_tile : FuncId := 127
abbrev F.impl_chains_1 : FuncId := 128
abbrev F.slices_Index_impl_Tile_impl_Tile : FuncId := 129
abbrev F.slices_Clone_int_int : FuncId := 130
abbrev F.slices_Delete_impl_Tile_impl_Tile : FuncId := 131
abbrev F.slices_Clone_impl_Tile_impl_Tile : FuncId := 132
abbrev F.impl_numbers : FuncId := 133
abbrev F.spec_tiHand : FuncId := 134
abbrev F.spec_tiTimes : FuncId := 135
abbrev F.spec_haLook_look : FuncId := 136
abbrev F.slices_IndexFunc_impl_Tile_impl_Tile : FuncId := 137
abbrev F.slices_ContainsFunc_int_int : FuncId := 138
abbrev F.impl_areWithin_1 : FuncId := 139
abbrev F.slices_Reverse_int_int : FuncId := 140
abbrev F.spec_l1All : FuncId := 141
abbrev F.spec_tiOf : FuncId := 142
abbrev F.spec_l1Num : FuncId := 143
abbrev F.slices_Grow_int_int : FuncId := 144
abbrev F.spec_tiPlace : FuncId := 145
abbrev F.impl_times : FuncId := 146
abbrev F.spec_tiGood : FuncId := 147
abbrev F.slices_IndexFunc_int_int : FuncId := 148
abbrev F.spec_l1Most : FuncId := 149
abbrev F.impl_bit : FuncId := 150
abbrev F.impl_Tile_digits : FuncId := 166
abbrev F.spec_l1Cur_layout : FuncId := 167
end Go.Proofs.Ytpignhcdfioldaa
