/- Walks, first part. -/
import Derived.Test.YtbaongomialaoaaGreatDoorCc
import Derived.Test.YtbaongomialaoaaGreatDoorProg
import Derived.KernelRfl
section
namespace Go.Arb
open Go Go.Proofs
@[simp] theorem tb_alk_112 : alk Tryz.prog 112 = some (4, 4, true) := by kernel_rfl
@[simp] theorem tb_alk_234 : alk Tryz.prog 234 = some (2, 1, false) := by kernel_rfl
@[simp] theorem tb_alk_281 : alk Tryz.prog 281 = some (2, 1, false) := by kernel_rfl
@[simp] theorem tb_alk_30 : alk Tryz.prog 30 = some (4, 3, true) := by kernel_rfl
@[simp] theorem tb_alk_303 : alk Tryz.prog 303 = some (4, 1, false) := by kernel_rfl
@[simp] theorem tb_alk_320 : alk Tryz.prog 320 = some (10, 1, false) := by kernel_rfl
@[simp] theorem tb_alk_341 : alk Tryz.prog 341 = some (2, 1, false) := by kernel_rfl
@[simp] theorem tb_alk_377 : alk Tryz.prog 377 = some (24, 1, false) := by kernel_rfl
@[simp] theorem tb_alk_385 : alk Tryz.prog 385 = some (20, 1, false) := by kernel_rfl
@[simp] theorem tb_alk_386 : alk Tryz.prog 386 = some (65, 1, false) := by kernel_rfl
@[simp] theorem tb_alk_387 : alk Tryz.prog 387 = some (32, 1, false) := by kernel_rfl
@[simp] theorem tb_alk_388 : alk Tryz.prog 388 = some (64, 1, false) := by kernel_rfl
@[simp] theorem tb_alk_98 : alk Tryz.prog 98 = some (2, 1, false) := by kernel_rfl
@[simp] theorem tb_apk_126 : apk Tryz.prog 126 = some (150, 4, 64) := by kernel_rfl
@[simp] theorem tb_apk_147 : apk Tryz.prog 147 = some (40, 4, 64) := by kernel_rfl
@[simp] theorem tb_apk_189 : apk Tryz.prog 189 = some (61, 1, 24) := by kernel_rfl
@[simp] theorem tb_apk_22 : apk Tryz.prog 22 = some (3, 1, 8) := by kernel_rfl
@[simp] theorem tb_apk_240 : apk Tryz.prog 240 = some (241, 1, 8) := by kernel_rfl
@[simp] theorem tb_apk_26 : apk Tryz.prog 26 = some (52, 40, 464) := by kernel_rfl
@[simp] theorem tb_apk_268 : apk Tryz.prog 268 = some (22, 1, 24) := by kernel_rfl
@[simp] theorem tb_apk_290 : apk Tryz.prog 290 = some (5, 1, 1) := by kernel_rfl
@[simp] theorem tb_apk_301 : apk Tryz.prog 301 = some (62, 1, 24) := by kernel_rfl
@[simp] theorem tb_apk_304 : apk Tryz.prog 304 = some (345, 2, 32) := by kernel_rfl
@[simp] theorem tb_apk_37 : apk Tryz.prog 37 = some (118, 2, 16) := by kernel_rfl
@[simp] theorem tb_apk_38 : apk Tryz.prog 38 = some (9, 1, 16) := by kernel_rfl
@[simp] theorem tb_apk_41 : apk Tryz.prog 41 = some (43, 7, 104) := by kernel_rfl
@[simp] theorem tb_apk_44 : apk Tryz.prog 44 = some (64, 3, 40) := by kernel_rfl
@[simp] theorem tb_apk_53 : apk Tryz.prog 53 = some (70, 18, 208) := by kernel_rfl
@[simp] theorem tb_apk_61 : apk Tryz.prog 61 = some (112, 16, 256) := by kernel_rfl
@[simp] theorem tb_apk_62 : apk Tryz.prog 62 = some (112, 16, 256) := by kernel_rfl
@[simp] theorem tb_descOf_1 : descOf Tryz.prog 1 = 3 := by kernel_rfl
@[simp] theorem tb_descOf_120 : descOf Tryz.prog 120 = 2 := by kernel_rfl
@[simp] theorem tb_descOf_123 : descOf Tryz.prog 123 = 2 := by kernel_rfl
@[simp] theorem tb_descOf_125 : descOf Tryz.prog 125 = 4 := by kernel_rfl
@[simp] theorem tb_descOf_132 : descOf Tryz.prog 132 = 2 := by kernel_rfl
@[simp] theorem tb_descOf_137 : descOf Tryz.prog 137 = 3 := by kernel_rfl
@[simp] theorem tb_descOf_168 : descOf Tryz.prog 168 = 3 := by kernel_rfl
@[simp] theorem tb_descOf_173 : descOf Tryz.prog 173 = 3 := by kernel_rfl
@[simp] theorem tb_descOf_180 : descOf Tryz.prog 180 = 2 := by kernel_rfl
@[simp] theorem tb_descOf_182 : descOf Tryz.prog 182 = 2 := by kernel_rfl
@[simp] theorem tb_descOf_191 : descOf Tryz.prog 191 = 3 := by kernel_rfl
@[simp] theorem tb_descOf_196 : descOf Tryz.prog 196 = 3 := by kernel_rfl
@[simp] theorem tb_descOf_203 : descOf Tryz.prog 203 = 3 := by kernel_rfl
@[simp] theorem tb_descOf_241 : descOf Tryz.prog 241 = 3 := by kernel_rfl
@[simp] theorem tb_descOf_243 : descOf Tryz.prog 243 = 2 := by kernel_rfl
@[simp] theorem tb_descOf_247 : descOf Tryz.prog 247 = 3 := by kernel_rfl
@[simp] theorem tb_descOf_279 : descOf Tryz.prog 279 = 2 := by kernel_rfl
@[simp] theorem tb_descOf_282 : descOf Tryz.prog 282 = 2 := by kernel_rfl
@[simp] theorem tb_descOf_289 : descOf Tryz.prog 289 = 2 := by kernel_rfl
@[simp] theorem tb_descOf_299 : descOf Tryz.prog 299 = 2 := by kernel_rfl
@[simp] theorem tb_descOf_307 : descOf Tryz.prog 307 = 2 := by kernel_rfl
@[simp] theorem tb_descOf_311 : descOf Tryz.prog 311 = 4 := by kernel_rfl
@[simp] theorem tb_descOf_325 : descOf Tryz.prog 325 = 2 := by kernel_rfl
@[simp] theorem tb_descOf_33 : descOf Tryz.prog 33 = 2 := by kernel_rfl
@[simp] theorem tb_descOf_357 : descOf Tryz.prog 357 = 2 := by kernel_rfl
@[simp] theorem tb_descOf_361 : descOf Tryz.prog 361 = 2 := by kernel_rfl
@[simp] theorem tb_descOf_371 : descOf Tryz.prog 371 = 2 := by kernel_rfl
@[simp] theorem tb_descOf_373 : descOf Tryz.prog 373 = 2 := by kernel_rfl
@[simp] theorem tb_descOf_4 : descOf Tryz.prog 4 = 1 := by kernel_rfl
@[simp] theorem tb_descOf_68 : descOf Tryz.prog 68 = 4 := by kernel_rfl
@[simp] theorem tb_descOf_85 : descOf Tryz.prog 85 = 4 := by kernel_rfl
@[simp] theorem tb_descOf_88 : descOf Tryz.prog 88 = 2 := by kernel_rfl
@[simp] theorem tb_descOf_9 : descOf Tryz.prog 9 = 5 := by kernel_rfl
@[simp] theorem tb_descOf_90 : descOf Tryz.prog 90 = 2 := by kernel_rfl
@[simp] theorem tb_flk_118_0 : flk Tryz.prog 118 0 = some (0, 1, false) := by kernel_rfl
@[simp] theorem tb_flk_118_1 : flk Tryz.prog 118 1 = some (1, 1, false) := by kernel_rfl
@[simp] theorem tb_flk_122_0 : flk Tryz.prog 122 0 = some (0, 1, false) := by kernel_rfl
@[simp] theorem tb_flk_122_1 : flk Tryz.prog 122 1 = some (1, 1, false) := by kernel_rfl
@[simp] theorem tb_flk_122_2 : flk Tryz.prog 122 2 = some (2, 1, false) := by kernel_rfl
@[simp] theorem tb_flk_122_3 : flk Tryz.prog 122 3 = some (3, 1, false) := by kernel_rfl
@[simp] theorem tb_flk_128_0 : flk Tryz.prog 128 0 = some (0, 1, false) := by kernel_rfl
@[simp] theorem tb_flk_128_1 : flk Tryz.prog 128 1 = some (1, 1, false) := by kernel_rfl
@[simp] theorem tb_flk_128_2 : flk Tryz.prog 128 2 = some (2, 1, false) := by kernel_rfl
@[simp] theorem tb_flk_128_3 : flk Tryz.prog 128 3 = some (3, 1, false) := by kernel_rfl
@[simp] theorem tb_flk_128_4 : flk Tryz.prog 128 4 = some (4, 1, false) := by kernel_rfl
@[simp] theorem tb_flk_150_0 : flk Tryz.prog 150 0 = some (0, 3, true) := by kernel_rfl
@[simp] theorem tb_flk_150_1 : flk Tryz.prog 150 1 = some (3, 1, false) := by kernel_rfl
@[simp] theorem tb_flk_156_2 : flk Tryz.prog 156 2 = some (0, 1, false) := by kernel_rfl
@[simp] theorem tb_flk_158_0 : flk Tryz.prog 158 0 = some (0, 1, false) := by kernel_rfl
@[simp] theorem tb_flk_158_1 : flk Tryz.prog 158 1 = some (1, 1, false) := by kernel_rfl
@[simp] theorem tb_flk_158_2 : flk Tryz.prog 158 2 = some (2, 1, true) := by kernel_rfl
@[simp] theorem tb_flk_158_3 : flk Tryz.prog 158 3 = some (3, 1, true) := by kernel_rfl
@[simp] theorem tb_flk_236_0 : flk Tryz.prog 236 0 = some (0, 1, false) := by kernel_rfl
@[simp] theorem tb_flk_236_1 : flk Tryz.prog 236 1 = some (1, 2, true) := by kernel_rfl
@[simp] theorem tb_flk_25_0 : flk Tryz.prog 25 0 = some (0, 1, false) := by kernel_rfl
@[simp] theorem tb_flk_25_1 : flk Tryz.prog 25 1 = some (1, 1, false) := by kernel_rfl
@[simp] theorem tb_flk_25_2 : flk Tryz.prog 25 2 = some (2, 1, false) := by kernel_rfl
@[simp] theorem tb_flk_25_3 : flk Tryz.prog 25 3 = some (3, 1, false) := by kernel_rfl
@[simp] theorem tb_flk_28_0 : flk Tryz.prog 28 0 = some (0, 1, false) := by kernel_rfl
@[simp] theorem tb_flk_28_1 : flk Tryz.prog 28 1 = some (1, 1, false) := by kernel_rfl
@[simp] theorem tb_flk_28_2 : flk Tryz.prog 28 2 = some (2, 1, false) := by kernel_rfl
@[simp] theorem tb_flk_292_0 : flk Tryz.prog 292 0 = some (0, 1, false) := by kernel_rfl
@[simp] theorem tb_flk_292_1 : flk Tryz.prog 292 1 = some (1, 1, false) := by kernel_rfl
@[simp] theorem tb_flk_306_0 : flk Tryz.prog 306 0 = some (0, 4, true) := by kernel_rfl
@[simp] theorem tb_flk_306_1 : flk Tryz.prog 306 1 = some (4, 1, false) := by kernel_rfl
@[simp] theorem tb_flk_306_2 : flk Tryz.prog 306 2 = some (5, 1, false) := by kernel_rfl
@[simp] theorem tb_flk_306_3 : flk Tryz.prog 306 3 = some (6, 1, true) := by kernel_rfl
@[simp] theorem tb_flk_329_1 : flk Tryz.prog 329 1 = some (0, 1, false) := by kernel_rfl
@[simp] theorem tb_flk_331_0 : flk Tryz.prog 331 0 = some (0, 1, false) := by kernel_rfl
@[simp] theorem tb_flk_331_1 : flk Tryz.prog 331 1 = some (1, 1, false) := by kernel_rfl
@[simp] theorem tb_flk_333_1 : flk Tryz.prog 333 1 = some (0, 2, true) := by kernel_rfl
@[simp] theorem tb_flk_335_1 : flk Tryz.prog 335 1 = some (0, 1, true) := by kernel_rfl
@[simp] theorem tb_flk_335_2 : flk Tryz.prog 335 2 = some (1, 2, true) := by kernel_rfl
@[simp] theorem tb_flk_337_0 : flk Tryz.prog 337 0 = some (0, 1, false) := by kernel_rfl
@[simp] theorem tb_flk_337_1 : flk Tryz.prog 337 1 = some (1, 3, true) := by kernel_rfl
@[simp] theorem tb_flk_337_2 : flk Tryz.prog 337 2 = some (4, 4, true) := by kernel_rfl
@[simp] theorem tb_flk_345_0 : flk Tryz.prog 345 0 = some (0, 1, false) := by kernel_rfl
@[simp] theorem tb_flk_345_1 : flk Tryz.prog 345 1 = some (1, 1, false) := by kernel_rfl
@[simp] theorem tb_flk_40_0 : flk Tryz.prog 40 0 = some (0, 1, false) := by kernel_rfl
@[simp] theorem tb_flk_40_1 : flk Tryz.prog 40 1 = some (1, 1, false) := by kernel_rfl
@[simp] theorem tb_flk_40_2 : flk Tryz.prog 40 2 = some (2, 1, false) := by kernel_rfl
@[simp] theorem tb_flk_40_3 : flk Tryz.prog 40 3 = some (3, 1, false) := by kernel_rfl
@[simp] theorem tb_flk_43_0 : flk Tryz.prog 43 0 = some (0, 1, false) := by kernel_rfl
@[simp] theorem tb_flk_43_1 : flk Tryz.prog 43 1 = some (1, 1, false) := by kernel_rfl
@[simp] theorem tb_flk_43_2 : flk Tryz.prog 43 2 = some (2, 4, true) := by kernel_rfl
@[simp] theorem tb_flk_43_3 : flk Tryz.prog 43 3 = some (6, 1, false) := by kernel_rfl
@[simp] theorem tb_flk_46_0 : flk Tryz.prog 46 0 = some (0, 1, false) := by kernel_rfl
@[simp] theorem tb_flk_46_1 : flk Tryz.prog 46 1 = some (1, 1, false) := by kernel_rfl
@[simp] theorem tb_flk_48_0 : flk Tryz.prog 48 0 = some (0, 1, false) := by kernel_rfl
@[simp] theorem tb_flk_48_1 : flk Tryz.prog 48 1 = some (1, 1, false) := by kernel_rfl
@[simp] theorem tb_flk_48_2 : flk Tryz.prog 48 2 = some (2, 12, true) := by kernel_rfl
@[simp] theorem tb_flk_50_0 : flk Tryz.prog 50 0 = some (0, 1, false) := by kernel_rfl
@[simp] theorem tb_flk_50_1 : flk Tryz.prog 50 1 = some (1, 2, true) := by kernel_rfl
@[simp] theorem tb_flk_50_2 : flk Tryz.prog 50 2 = some (3, 14, true) := by kernel_rfl
@[simp] theorem tb_flk_52_0 : flk Tryz.prog 52 0 = some (0, 1, false) := by kernel_rfl
@[simp] theorem tb_flk_52_1 : flk Tryz.prog 52 1 = some (1, 1, false) := by kernel_rfl
@[simp] theorem tb_flk_52_2 : flk Tryz.prog 52 2 = some (2, 1, false) := by kernel_rfl
@[simp] theorem tb_flk_52_3 : flk Tryz.prog 52 3 = some (3, 1, false) := by kernel_rfl
@[simp] theorem tb_flk_52_4 : flk Tryz.prog 52 4 = some (4, 7, true) := by kernel_rfl
@[simp] theorem tb_flk_52_5 : flk Tryz.prog 52 5 = some (11, 12, true) := by kernel_rfl
@[simp] theorem tb_flk_52_6 : flk Tryz.prog 52 6 = some (23, 17, true) := by kernel_rfl
@[simp] theorem tb_flk_64_0 : flk Tryz.prog 64 0 = some (0, 1, false) := by kernel_rfl
@[simp] theorem tb_flk_64_1 : flk Tryz.prog 64 1 = some (1, 1, false) := by kernel_rfl
@[simp] theorem tb_flk_64_2 : flk Tryz.prog 64 2 = some (2, 1, false) := by kernel_rfl
@[simp] theorem tb_flk_70_0 : flk Tryz.prog 70 0 = some (0, 1, false) := by kernel_rfl
@[simp] theorem tb_flk_70_1 : flk Tryz.prog 70 1 = some (1, 17, true) := by kernel_rfl
@[simp] theorem tb_flk_87_0 : flk Tryz.prog 87 0 = some (0, 1, false) := by kernel_rfl
@[simp] theorem tb_flk_87_1 : flk Tryz.prog 87 1 = some (1, 1, false) := by kernel_rfl
@[simp] theorem tb_flk_87_2 : flk Tryz.prog 87 2 = some (2, 1, false) := by kernel_rfl
@[simp] theorem tb_flk_87_3 : flk Tryz.prog 87 3 = some (3, 1, false) := by kernel_rfl
@[simp] theorem tb_flk_87_4 : flk Tryz.prog 87 4 = some (4, 1, false) := by kernel_rfl
@[simp] theorem tb_flk_87_5 : flk Tryz.prog 87 5 = some (5, 1, false) := by kernel_rfl
@[simp] theorem tb_flk_87_6 : flk Tryz.prog 87 6 = some (6, 1, false) := by kernel_rfl
@[simp] theorem tb_flk_87_7 : flk Tryz.prog 87 7 = some (7, 1, false) := by kernel_rfl
@[simp] theorem tb_flk_87_8 : flk Tryz.prog 87 8 = some (8, 1, false) := by kernel_rfl
@[simp] theorem tb_ikOf_208 : ikOf Tryz.prog 208 = some .u64 := by kernel_rfl
@[simp] theorem tb_ikOf_23 : ikOf Tryz.prog 23 = some .u64 := by kernel_rfl
@[simp] theorem tb_ikOf_232 : ikOf Tryz.prog 232 = some .u32 := by kernel_rfl
@[simp] theorem tb_ikOf_255 : ikOf Tryz.prog 255 = some .u64 := by kernel_rfl
@[simp] theorem tb_ikOf_3 : ikOf Tryz.prog 3 = some .i64 := by kernel_rfl
@[simp] theorem tb_ikOf_5 : ikOf Tryz.prog 5 = some .u8 := by kernel_rfl
@[simp] theorem tb_lk_112 : lk Tryz.prog 112 = some (true, 16) := by kernel_rfl
@[simp] theorem tb_lk_118 : lk Tryz.prog 118 = some (true, 2) := by kernel_rfl
@[simp] theorem tb_lk_122 : lk Tryz.prog 122 = some (true, 4) := by kernel_rfl
@[simp] theorem tb_lk_123 : lk Tryz.prog 123 = some (false, 1) := by kernel_rfl
@[simp] theorem tb_lk_125 : lk Tryz.prog 125 = some (false, 1) := by kernel_rfl
@[simp] theorem tb_lk_126 : lk Tryz.prog 126 = some (false, 1) := by kernel_rfl
@[simp] theorem tb_lk_128 : lk Tryz.prog 128 = some (true, 5) := by kernel_rfl
@[simp] theorem tb_lk_147 : lk Tryz.prog 147 = some (false, 1) := by kernel_rfl
@[simp] theorem tb_lk_150 : lk Tryz.prog 150 = some (true, 4) := by kernel_rfl
@[simp] theorem tb_lk_151 : lk Tryz.prog 151 = some (false, 1) := by kernel_rfl
@[simp] theorem tb_lk_158 : lk Tryz.prog 158 = some (true, 4) := by kernel_rfl
@[simp] theorem tb_lk_2 : lk Tryz.prog 2 = some (false, 1) := by kernel_rfl
@[simp] theorem tb_lk_208 : lk Tryz.prog 208 = some (false, 1) := by kernel_rfl
@[simp] theorem tb_lk_21 : lk Tryz.prog 21 = some (false, 1) := by kernel_rfl
@[simp] theorem tb_lk_22 : lk Tryz.prog 22 = some (false, 1) := by kernel_rfl
@[simp] theorem tb_lk_23 : lk Tryz.prog 23 = some (false, 1) := by kernel_rfl
@[simp] theorem tb_lk_232 : lk Tryz.prog 232 = some (false, 1) := by kernel_rfl
@[simp] theorem tb_lk_236 : lk Tryz.prog 236 = some (true, 3) := by kernel_rfl
@[simp] theorem tb_lk_241 : lk Tryz.prog 241 = some (false, 1) := by kernel_rfl
@[simp] theorem tb_lk_25 : lk Tryz.prog 25 = some (true, 4) := by kernel_rfl
@[simp] theorem tb_lk_255 : lk Tryz.prog 255 = some (false, 1) := by kernel_rfl
@[simp] theorem tb_lk_28 : lk Tryz.prog 28 = some (true, 3) := by kernel_rfl
@[simp] theorem tb_lk_281 : lk Tryz.prog 281 = some (true, 2) := by kernel_rfl
@[simp] theorem tb_lk_289 : lk Tryz.prog 289 = some (false, 1) := by kernel_rfl
@[simp] theorem tb_lk_290 : lk Tryz.prog 290 = some (false, 1) := by kernel_rfl
@[simp] theorem tb_lk_292 : lk Tryz.prog 292 = some (true, 2) := by kernel_rfl
@[simp] theorem tb_lk_3 : lk Tryz.prog 3 = some (false, 1) := by kernel_rfl
@[simp] theorem tb_lk_30 : lk Tryz.prog 30 = some (true, 12) := by kernel_rfl
@[simp] theorem tb_lk_301 : lk Tryz.prog 301 = some (false, 1) := by kernel_rfl
@[simp] theorem tb_lk_302 : lk Tryz.prog 302 = some (false, 1) := by kernel_rfl
@[simp] theorem tb_lk_304 : lk Tryz.prog 304 = some (false, 1) := by kernel_rfl
@[simp] theorem tb_lk_306 : lk Tryz.prog 306 = some (true, 7) := by kernel_rfl
@[simp] theorem tb_lk_320 : lk Tryz.prog 320 = some (true, 10) := by kernel_rfl
@[simp] theorem tb_lk_337 : lk Tryz.prog 337 = some (true, 8) := by kernel_rfl
@[simp] theorem tb_lk_341 : lk Tryz.prog 341 = some (true, 2) := by kernel_rfl
@[simp] theorem tb_lk_349 : lk Tryz.prog 349 = some (false, 1) := by kernel_rfl
@[simp] theorem tb_lk_37 : lk Tryz.prog 37 = some (false, 1) := by kernel_rfl
@[simp] theorem tb_lk_371 : lk Tryz.prog 371 = some (false, 1) := by kernel_rfl
@[simp] theorem tb_lk_377 : lk Tryz.prog 377 = some (true, 24) := by kernel_rfl
@[simp] theorem tb_lk_38 : lk Tryz.prog 38 = some (false, 1) := by kernel_rfl
@[simp] theorem tb_lk_385 : lk Tryz.prog 385 = some (true, 20) := by kernel_rfl
@[simp] theorem tb_lk_386 : lk Tryz.prog 386 = some (true, 65) := by kernel_rfl
@[simp] theorem tb_lk_387 : lk Tryz.prog 387 = some (true, 32) := by kernel_rfl
@[simp] theorem tb_lk_388 : lk Tryz.prog 388 = some (true, 64) := by kernel_rfl
@[simp] theorem tb_lk_4 : lk Tryz.prog 4 = some (false, 1) := by kernel_rfl
@[simp] theorem tb_lk_40 : lk Tryz.prog 40 = some (true, 4) := by kernel_rfl
@[simp] theorem tb_lk_41 : lk Tryz.prog 41 = some (false, 1) := by kernel_rfl
@[simp] theorem tb_lk_43 : lk Tryz.prog 43 = some (true, 7) := by kernel_rfl
@[simp] theorem tb_lk_44 : lk Tryz.prog 44 = some (false, 1) := by kernel_rfl
@[simp] theorem tb_lk_46 : lk Tryz.prog 46 = some (true, 2) := by kernel_rfl
@[simp] theorem tb_lk_48 : lk Tryz.prog 48 = some (true, 14) := by kernel_rfl
@[simp] theorem tb_lk_5 : lk Tryz.prog 5 = some (false, 1) := by kernel_rfl
@[simp] theorem tb_lk_50 : lk Tryz.prog 50 = some (true, 17) := by kernel_rfl
@[simp] theorem tb_lk_52 : lk Tryz.prog 52 = some (true, 40) := by kernel_rfl
@[simp] theorem tb_lk_61 : lk Tryz.prog 61 = some (false, 1) := by kernel_rfl
@[simp] theorem tb_lk_62 : lk Tryz.prog 62 = some (false, 1) := by kernel_rfl
@[simp] theorem tb_lk_64 : lk Tryz.prog 64 = some (true, 3) := by kernel_rfl
@[simp] theorem tb_lk_68 : lk Tryz.prog 68 = some (false, 1) := by kernel_rfl
@[simp] theorem tb_lk_70 : lk Tryz.prog 70 = some (true, 18) := by kernel_rfl
@[simp] theorem tb_lk_82 : lk Tryz.prog 82 = some (false, 1) := by kernel_rfl
@[simp] theorem tb_lk_83 : lk Tryz.prog 83 = some (false, 1) := by kernel_rfl
@[simp] theorem tb_lk_84 : lk Tryz.prog 84 = some (false, 1) := by kernel_rfl
@[simp] theorem tb_lk_85 : lk Tryz.prog 85 = some (false, 1) := by kernel_rfl
@[simp] theorem tb_lk_87 : lk Tryz.prog 87 = some (true, 9) := by kernel_rfl
@[simp] theorem tb_lk_88 : lk Tryz.prog 88 = some (false, 1) := by kernel_rfl
@[simp] theorem tb_lk_9 : lk Tryz.prog 9 = some (false, 1) := by kernel_rfl
@[simp] theorem tb_lk_90 : lk Tryz.prog 90 = some (false, 1) := by kernel_rfl
@[simp] theorem tb_lk_98 : lk Tryz.prog 98 = some (true, 2) := by kernel_rfl
@[simp] theorem tb_mlk_125 : mlk Tryz.prog 125 = some (3, 64) := by kernel_rfl
@[simp] theorem tb_mlk_151 : mlk Tryz.prog 151 = some (281, 236) := by kernel_rfl
@[simp] theorem tb_mlk_302 : mlk Tryz.prog 302 = some (9, 3) := by kernel_rfl
@[simp] theorem tb_mlk_311 : mlk Tryz.prog 311 = some (341, 3) := by kernel_rfl
@[simp] theorem tb_mlk_68 : mlk Tryz.prog 68 = some (3, 4) := by kernel_rfl
@[simp] theorem tb_mlk_82 : mlk Tryz.prog 82 = some (3, 88) := by kernel_rfl
@[simp] theorem tb_mlk_83 : mlk Tryz.prog 83 = some (3, 44) := by kernel_rfl
@[simp] theorem tb_mlk_84 : mlk Tryz.prog 84 = some (3, 90) := by kernel_rfl
@[simp] theorem tb_mlk_85 : mlk Tryz.prog 85 = some (98, 3) := by kernel_rfl
@[simp] theorem tb_plc_118 : plc Tryz.prog 118 = some [(0, 1), (1, 1)] := by kernel_rfl
@[simp] theorem tb_plc_122 : plc Tryz.prog 122 = some [(0, 1), (1, 1), (2, 1), (3, 1)] := by kernel_rfl
@[simp] theorem tb_plc_128 : plc Tryz.prog 128 = some [(0, 1), (1, 1), (2, 1), (3, 1), (4, 1)] := by kernel_rfl
@[simp] theorem tb_plc_150 : plc Tryz.prog 150 = some [(0, 3), (3, 1)] := by kernel_rfl
@[simp] theorem tb_plc_158 : plc Tryz.prog 158 = some [(0, 1), (1, 1), (2, 1), (3, 1)] := by kernel_rfl
@[simp] theorem tb_plc_236 : plc Tryz.prog 236 = some [(0, 1), (1, 2)] := by kernel_rfl
@[simp] theorem tb_plc_25 : plc Tryz.prog 25 = some [(0, 1), (1, 1), (2, 1), (3, 1)] := by kernel_rfl
@[simp] theorem tb_plc_28 : plc Tryz.prog 28 = some [(0, 1), (1, 1), (2, 1)] := by kernel_rfl
@[simp] theorem tb_plc_292 : plc Tryz.prog 292 = some [(0, 1), (1, 1)] := by kernel_rfl
@[simp] theorem tb_plc_306 : plc Tryz.prog 306 = some [(0, 4), (4, 1), (5, 1), (6, 1)] := by kernel_rfl
@[simp] theorem tb_plc_337 : plc Tryz.prog 337 = some [(0, 1), (1, 3), (4, 4)] := by kernel_rfl
@[simp] theorem tb_plc_345 : plc Tryz.prog 345 = some [(0, 1), (1, 1)] := by kernel_rfl
@[simp] theorem tb_plc_40 : plc Tryz.prog 40 = some [(0, 1), (1, 1), (2, 1), (3, 1)] := by kernel_rfl
@[simp] theorem tb_plc_43 : plc Tryz.prog 43 = some [(0, 1), (1, 1), (2, 4), (6, 1)] := by kernel_rfl
@[simp] theorem tb_plc_48 : plc Tryz.prog 48 = some [(0, 1), (1, 1), (2, 12)] := by kernel_rfl
@[simp] theorem tb_plc_50 : plc Tryz.prog 50 = some [(0, 1), (1, 2), (3, 14)] := by kernel_rfl
@[simp] theorem tb_plc_64 : plc Tryz.prog 64 = some [(0, 1), (1, 1), (2, 1)] := by kernel_rfl
@[simp] theorem tb_plc_70 : plc Tryz.prog 70 = some [(0, 1), (1, 17)] := by kernel_rfl
@[simp] theorem tb_plc_87 : plc Tryz.prog 87 = some [(0, 1), (1, 1), (2, 1), (3, 1), (4, 1), (5, 1), (6, 1), (7, 1), (8, 1)] := by kernel_rfl
@[simp] theorem tb_slk_126 : slk Tryz.prog 126 = some 4 := by kernel_rfl
@[simp] theorem tb_slk_147 : slk Tryz.prog 147 = some 4 := by kernel_rfl
@[simp] theorem tb_slk_189 : slk Tryz.prog 189 = some 1 := by kernel_rfl
@[simp] theorem tb_slk_22 : slk Tryz.prog 22 = some 1 := by kernel_rfl
@[simp] theorem tb_slk_240 : slk Tryz.prog 240 = some 1 := by kernel_rfl
@[simp] theorem tb_slk_26 : slk Tryz.prog 26 = some 40 := by kernel_rfl
@[simp] theorem tb_slk_268 : slk Tryz.prog 268 = some 1 := by kernel_rfl
@[simp] theorem tb_slk_290 : slk Tryz.prog 290 = some 1 := by kernel_rfl
@[simp] theorem tb_slk_301 : slk Tryz.prog 301 = some 1 := by kernel_rfl
@[simp] theorem tb_slk_304 : slk Tryz.prog 304 = some 2 := by kernel_rfl
@[simp] theorem tb_slk_37 : slk Tryz.prog 37 = some 2 := by kernel_rfl
@[simp] theorem tb_slk_38 : slk Tryz.prog 38 = some 1 := by kernel_rfl
@[simp] theorem tb_slk_41 : slk Tryz.prog 41 = some 7 := by kernel_rfl
@[simp] theorem tb_slk_44 : slk Tryz.prog 44 = some 3 := by kernel_rfl
@[simp] theorem tb_slk_53 : slk Tryz.prog 53 = some 18 := by kernel_rfl
@[simp] theorem tb_slk_61 : slk Tryz.prog 61 = some 16 := by kernel_rfl
@[simp] theorem tb_slk_62 : slk Tryz.prog 62 = some 16 := by kernel_rfl
@[simp] theorem tb_zeroC_112 : zeroC Tryz.prog 112 = some [.b false, .nilsl, .b false, .nilsl, .b false, .nilsl, .b false, .nilsl, .b false, .nilsl, .b false, .nilsl, .b false, .nilsl, .b false, .nilsl] := by kernel_rfl
@[simp] theorem tb_zeroC_118 : zeroC Tryz.prog 118 = some [.i .i64 (0), .i .i64 (0)] := by kernel_rfl
@[simp] theorem tb_zeroC_122 : zeroC Tryz.prog 122 = some [.i .i64 (0), .nilsl, .nilmap, .nilsl] := by kernel_rfl
@[simp] theorem tb_zeroC_128 : zeroC Tryz.prog 128 = some [.nilp, .i .u64 (0), .nilmap, .nilsl, .i .i64 (0)] := by kernel_rfl
@[simp] theorem tb_zeroC_150 : zeroC Tryz.prog 150 = some [.i .i64 (0), .nilsl, .i .u64 (0), .nilsl] := by kernel_rfl
@[simp] theorem tb_zeroC_158 : zeroC Tryz.prog 158 = some [.i .i64 (0), .nilmap, .i .i64 (0), .i .i64 (0)] := by kernel_rfl
@[simp] theorem tb_zeroC_22 : zeroC Tryz.prog 22 = some [.nilsl] := by kernel_rfl
@[simp] theorem tb_zeroC_234 : zeroC Tryz.prog 234 = some [.b false, .b false] := by kernel_rfl
@[simp] theorem tb_zeroC_236 : zeroC Tryz.prog 236 = some [.i .i64 (0), .b false, .b false] := by kernel_rfl
@[simp] theorem tb_zeroC_241 : zeroC Tryz.prog 241 = some [.nilfn] := by kernel_rfl
@[simp] theorem tb_zeroC_25 : zeroC Tryz.prog 25 = some [.nilsl, .nilsl, .i .i64 (0), .i .u64 (0)] := by kernel_rfl
@[simp] theorem tb_zeroC_255 : zeroC Tryz.prog 255 = some [.i .u64 (0)] := by kernel_rfl
@[simp] theorem tb_zeroC_28 : zeroC Tryz.prog 28 = some [.i .i64 (0), .i .i64 (0), .s []] := by kernel_rfl
@[simp] theorem tb_zeroC_281 : zeroC Tryz.prog 281 = some [.s [], .s []] := by kernel_rfl
@[simp] theorem tb_zeroC_292 : zeroC Tryz.prog 292 = some [.nilp, .nilsl] := by kernel_rfl
@[simp] theorem tb_zeroC_3 : zeroC Tryz.prog 3 = some [.i .i64 (0)] := by kernel_rfl
@[simp] theorem tb_zeroC_30 : zeroC Tryz.prog 30 = some [.i .i64 (0), .i .i64 (0), .s [], .i .i64 (0), .i .i64 (0), .s [], .i .i64 (0), .i .i64 (0), .s [], .i .i64 (0), .i .i64 (0), .s []] := by kernel_rfl
@[simp] theorem tb_zeroC_306 : zeroC Tryz.prog 306 = some [.nilsl, .nilsl, .nilsl, .nilsl, .nilsl, .nilmap, .i .i64 (0)] := by kernel_rfl
@[simp] theorem tb_zeroC_320 : zeroC Tryz.prog 320 = some [.i .u8 (0), .i .u8 (0), .i .u8 (0), .i .u8 (0), .i .u8 (0), .i .u8 (0), .i .u8 (0), .i .u8 (0), .i .u8 (0), .i .u8 (0)] := by kernel_rfl
@[simp] theorem tb_zeroC_337 : zeroC Tryz.prog 337 = some [.nilsl, .i .u32 (0), .i .i32 (0), .i .u32 (0), .nilsl, .nilsl, .nilsl, .nilsl] := by kernel_rfl
@[simp] theorem tb_zeroC_341 : zeroC Tryz.prog 341 = some [.i .u64 (0), .i .u64 (0)] := by kernel_rfl
@[simp] theorem tb_zeroC_345 : zeroC Tryz.prog 345 = some [.i .i64 (0), .nilsl] := by kernel_rfl
@[simp] theorem tb_zeroC_377 : zeroC Tryz.prog 377 = some [.i .u8 (0), .i .u8 (0), .i .u8 (0), .i .u8 (0), .i .u8 (0), .i .u8 (0), .i .u8 (0), .i .u8 (0), .i .u8 (0), .i .u8 (0), .i .u8 (0), .i .u8 (0), .i .u8 (0), .i .u8 (0), .i .u8 (0), .i .u8 (0), .i .u8 (0), .i .u8 (0), .i .u8 (0), .i .u8 (0), .i .u8 (0), .i .u8 (0), .i .u8 (0), .i .u8 (0)] := by kernel_rfl
@[simp] theorem tb_zeroC_385 : zeroC Tryz.prog 385 = some [.i .u64 (0), .i .u64 (0), .i .u64 (0), .i .u64 (0), .i .u64 (0), .i .u64 (0), .i .u64 (0), .i .u64 (0), .i .u64 (0), .i .u64 (0), .i .u64 (0), .i .u64 (0), .i .u64 (0), .i .u64 (0), .i .u64 (0), .i .u64 (0), .i .u64 (0), .i .u64 (0), .i .u64 (0), .i .u64 (0)] := by kernel_rfl
@[simp] theorem tb_zeroC_386 : zeroC Tryz.prog 386 = some [.i .u8 (0), .i .u8 (0), .i .u8 (0), .i .u8 (0), .i .u8 (0), .i .u8 (0), .i .u8 (0), .i .u8 (0), .i .u8 (0), .i .u8 (0), .i .u8 (0), .i .u8 (0), .i .u8 (0), .i .u8 (0), .i .u8 (0), .i .u8 (0), .i .u8 (0), .i .u8 (0), .i .u8 (0), .i .u8 (0), .i .u8 (0), .i .u8 (0), .i .u8 (0), .i .u8 (0), .i .u8 (0), .i .u8 (0), .i .u8 (0), .i .u8 (0), .i .u8 (0), .i .u8 (0), .i .u8 (0), .i .u8 (0), .i .u8 (0), .i .u8 (0), .i .u8 (0), .i .u8 (0), .i .u8 (0), .i .u8 (0), .i .u8 (0), .i .u8 (0), .i .u8 (0), .i .u8 (0), .i .u8 (0), .i .u8 (0), .i .u8 (0), .i .u8 (0), .i .u8 (0), .i .u8 (0), .i .u8 (0), .i .u8 (0), .i .u8 (0), .i .u8 (0), .i .u8 (0), .i .u8 (0), .i .u8 (0), .i .u8 (0), .i .u8 (0), .i .u8 (0), .i .u8 (0), .i .u8 (0), .i .u8 (0), .i .u8 (0), .i .u8 (0), .i .u8 (0), .i .u8 (0)] := by kernel_rfl
@[simp] theorem tb_zeroC_387 : zeroC Tryz.prog 387 = some [.i .u8 (0), .i .u8 (0), .i .u8 (0), .i .u8 (0), .i .u8 (0), .i .u8 (0), .i .u8 (0), .i .u8 (0), .i .u8 (0), .i .u8 (0), .i .u8 (0), .i .u8 (0), .i .u8 (0), .i .u8 (0), .i .u8 (0), .i .u8 (0), .i .u8 (0), .i .u8 (0), .i .u8 (0), .i .u8 (0), .i .u8 (0), .i .u8 (0), .i .u8 (0), .i .u8 (0), .i .u8 (0), .i .u8 (0), .i .u8 (0), .i .u8 (0), .i .u8 (0), .i .u8 (0), .i .u8 (0), .i .u8 (0)] := by kernel_rfl
@[simp] theorem tb_zeroC_388 : zeroC Tryz.prog 388 = some [.i .u8 (0), .i .u8 (0), .i .u8 (0), .i .u8 (0), .i .u8 (0), .i .u8 (0), .i .u8 (0), .i .u8 (0), .i .u8 (0), .i .u8 (0), .i .u8 (0), .i .u8 (0), .i .u8 (0), .i .u8 (0), .i .u8 (0), .i .u8 (0), .i .u8 (0), .i .u8 (0), .i .u8 (0), .i .u8 (0), .i .u8 (0), .i .u8 (0), .i .u8 (0), .i .u8 (0), .i .u8 (0), .i .u8 (0), .i .u8 (0), .i .u8 (0), .i .u8 (0), .i .u8 (0), .i .u8 (0), .i .u8 (0), .i .u8 (0), .i .u8 (0), .i .u8 (0), .i .u8 (0), .i .u8 (0), .i .u8 (0), .i .u8 (0), .i .u8 (0), .i .u8 (0), .i .u8 (0), .i .u8 (0), .i .u8 (0), .i .u8 (0), .i .u8 (0), .i .u8 (0), .i .u8 (0), .i .u8 (0), .i .u8 (0), .i .u8 (0), .i .u8 (0), .i .u8 (0), .i .u8 (0), .i .u8 (0), .i .u8 (0), .i .u8 (0), .i .u8 (0), .i .u8 (0), .i .u8 (0), .i .u8 (0), .i .u8 (0), .i .u8 (0), .i .u8 (0)] := by kernel_rfl
@[simp] theorem tb_zeroC_40 : zeroC Tryz.prog 40 = some [.b false, .nilsl, .b false, .nilsl] := by kernel_rfl
@[simp] theorem tb_zeroC_43 : zeroC Tryz.prog 43 = some [.i .i64 (0), .i .i64 (0), .b false, .nilsl, .b false, .nilsl, .nilsl] := by kernel_rfl
@[simp] theorem tb_zeroC_46 : zeroC Tryz.prog 46 = some [.nilsl, .nilsl] := by kernel_rfl
@[simp] theorem tb_zeroC_48 : zeroC Tryz.prog 48 = some [.i .i64 (0), .i .i64 (0), .i .i64 (0), .i .i64 (0), .s [], .i .i64 (0), .i .i64 (0), .s [], .i .i64 (0), .i .i64 (0), .s [], .i .i64 (0), .i .i64 (0), .s []] := by kernel_rfl
@[simp] theorem tb_zeroC_5 : zeroC Tryz.prog 5 = some [.i .u8 (0)] := by kernel_rfl
@[simp] theorem tb_zeroC_50 : zeroC Tryz.prog 50 = some [.b false, .nilsl, .nilsl, .i .i64 (0), .i .i64 (0), .i .i64 (0), .i .i64 (0), .s [], .i .i64 (0), .i .i64 (0), .s [], .i .i64 (0), .i .i64 (0), .s [], .i .i64 (0), .i .i64 (0), .s []] := by kernel_rfl
@[simp] theorem tb_zeroC_52 : zeroC Tryz.prog 52 = some [.i .i64 (0), .i .i64 (0), .i .i64 (0), .i .i64 (0), .i .i64 (0), .i .i64 (0), .b false, .nilsl, .b false, .nilsl, .nilsl, .i .i64 (0), .i .i64 (0), .s [], .i .i64 (0), .i .i64 (0), .s [], .i .i64 (0), .i .i64 (0), .s [], .i .i64 (0), .i .i64 (0), .s [], .b false, .nilsl, .nilsl, .i .i64 (0), .i .i64 (0), .i .i64 (0), .i .i64 (0), .s [], .i .i64 (0), .i .i64 (0), .s [], .i .i64 (0), .i .i64 (0), .s [], .i .i64 (0), .i .i64 (0), .s []] := by kernel_rfl
@[simp] theorem tb_zeroC_61 : zeroC Tryz.prog 61 = some [.nilsl] := by kernel_rfl
@[simp] theorem tb_zeroC_62 : zeroC Tryz.prog 62 = some [.nilsl] := by kernel_rfl
@[simp] theorem tb_zeroC_64 : zeroC Tryz.prog 64 = some [.i .i64 (0), .nilsl, .i .u64 (0)] := by kernel_rfl
@[simp] theorem tb_zeroC_68 : zeroC Tryz.prog 68 = some [.nilmap] := by kernel_rfl
@[simp] theorem tb_zeroC_70 : zeroC Tryz.prog 70 = some [.i .i64 (0), .b false, .nilsl, .nilsl, .i .i64 (0), .i .i64 (0), .i .i64 (0), .i .i64 (0), .s [], .i .i64 (0), .i .i64 (0), .s [], .i .i64 (0), .i .i64 (0), .s [], .i .i64 (0), .i .i64 (0), .s []] := by kernel_rfl
@[simp] theorem tb_zeroC_87 : zeroC Tryz.prog 87 = some [.i .u64 (0), .nilsl, .nilsl, .nilmap, .nilmap, .nilmap, .nilmap, .i .i64 (0), .i .i64 (0)] := by kernel_rfl
@[simp] theorem tb_zeroC_9 : zeroC Tryz.prog 9 = some [.s []] := by kernel_rfl
@[simp] theorem tb_zeroC_90 : zeroC Tryz.prog 90 = some [.nilp] := by kernel_rfl
@[simp] theorem tb_zeroC_98 : zeroC Tryz.prog 98 = some [.i .i64 (0), .i .i64 (0)] := by kernel_rfl
@[simp] theorem tb_zeroV_236 : zeroV Tryz.prog 236 = some (.agg [.i .i64 (0), .b false, .b false]) := by kernel_rfl
@[simp] theorem tb_zeroV_3 : zeroV Tryz.prog 3 = some (.i .i64 (0)) := by kernel_rfl
@[simp] theorem tb_zeroV_4 : zeroV Tryz.prog 4 = some (.b false) := by kernel_rfl
@[simp] theorem tb_zeroV_44 : zeroV Tryz.prog 44 = some .nilsl := by kernel_rfl
@[simp] theorem tb_zeroV_64 : zeroV Tryz.prog 64 = some (.agg [.i .i64 (0), .nilsl, .i .u64 (0)]) := by kernel_rfl
@[simp] theorem tb_zeroV_88 : zeroV Tryz.prog 88 = some .nilp := by kernel_rfl
@[simp] theorem tb_zeroV_90 : zeroV Tryz.prog 90 = some .nilp := by kernel_rfl
end Go.Arb
end

section
namespace Go.Arb
open Go
/-! The program's data, plainly -/
def encInts (l : List Int) : List (List DV) := l.map fun n => [.i .i64 n]
def encStrs (l : List (List UInt8)) : List (List DV) := l.map fun s => [.s s]

structure MRange where
  lo : Int
  hi : Int
  deriving DecidableEq, Inhabited
def encRange (r : MRange) : List DV := [.i .i64 r.lo, .i .i64 r.hi]

structure MSet where
  absent : Bool
  ints : List MRange
  co : Bool
  strs : List (List UInt8)
  deriving DecidableEq, Inhabited
def encSet (s : MSet) : List DV := [.b s.absent, .sl (s.ints.map encRange), .b s.co, .sl (encStrs s.strs)]

inductive MExpr where
  | mk (kind attr : Int) (set : MSet) (sub : List MExpr)
  deriving Inhabited

mutual
def encExpr : MExpr → List DV
  | .mk k a s l => [.i .i64 k, .i .i64 a, .b s.absent, .sl (s.ints.map encRange), .b s.co, .sl (encStrs s.strs), .sl (encExprs l)]
def encExprs : List MExpr → List (List DV)
  | [] => []
  | x :: l => encExpr x :: encExprs l
end

theorem encExprs_length (l : List MExpr) : (encExprs l).length = l.length := by
  induction l with
  | nil => simp [encExprs]
  | cons x l ih => simp [encExprs, ih]

theorem encExprs_get (l : List MExpr) (i : Nat) : (encExprs l)[i]? = (l[i]?).map encExpr := by
  induction l generalizing i with
  | nil => simp [encExprs]
  | cons x l ih =>
    cases i with
    | zero => simp [encExprs]
    | succ i => simp [encExprs, ih]

theorem encExpr_length (x : MExpr) : (encExpr x).length = 7 := by cases x; simp [encExpr]

theorem encExpr_take (x : MExpr) : List.take 7 (encExpr x) = encExpr x := by cases x; simp [encExpr]

/-- How deep an expression is. -/
def MExpr.sub : MExpr → List MExpr
  | .mk _ _ _ l => l

/-! arbourref05.Count -/
mutual
def cnt05 : MExpr → Int → Int
  | .mk _ _ _ l, deep => if deep > 20 then 100 else min (cntL05 l (deep + 1) 1) 100
def cntL05 : List MExpr → Int → Int → Int
  | [], _, n => n
  | x :: r, deep, n => if n < 100 then cntL05 r deep (n + cnt05 x deep) else n
end

mutual
theorem cnt05_bound : ∀ (x : MExpr) (deep : Int), 1 ≤ cnt05 x deep ∧ cnt05 x deep ≤ 100
  | .mk _ _ _ l, deep => by
    unfold cnt05
    split
    · omega
    · have := cntL05_bound l (deep + 1) 1 (by omega)
      omega
theorem cntL05_bound : ∀ (l : List MExpr) (deep n : Int), 1 ≤ n → 1 ≤ cntL05 l deep n
  | [], _, n, h => by unfold cntL05; exact h
  | x :: r, deep, n, h => by
    unfold cntL05
    split
    · have := cnt05_bound x deep
      exact cntL05_bound r deep _ (by omega)
    · exact h
end

/-! arbourref05.Deep -/
mutual
def deep05 : MExpr → Int → Int
  | .mk _ _ _ l, d => if d > 20 then 20 else min (deepL05 l (d + 1) 0 0 + 1) 20
def deepL05 : List MExpr → Int → Nat → Int → Int
  | [], _, _, n => n
  | x :: r, d, i, n => if i < 100 then deepL05 r d (i + 1) (if deep05 x d > n then deep05 x d else n) else n
end

mutual
theorem deep05_bound : ∀ (x : MExpr) (d : Int), 1 ≤ deep05 x d ∧ deep05 x d ≤ 20
  | .mk _ _ _ l, d => by
    unfold deep05
    split
    · omega
    · have := deepL05_bound l (d + 1) 0 0 (by omega)
      omega
theorem deepL05_bound : ∀ (l : List MExpr) (d : Int) (i : Nat) (n : Int), 0 ≤ n → 0 ≤ deepL05 l d i n
  | [], _, _, n, h => by unfold deepL05; exact h
  | x :: r, d, i, n, h => by
    unfold deepL05
    split
    · have := deep05_bound x d
      exact deepL05_bound r d _ _ (by split <;> omega)
    · exact h
end

/-! arbourref03.Few -/
def fewSet03 (s : MSet) : Bool := decide (s.ints.length ≤ 40) && decide (s.strs.length ≤ 40) && s.strs.all fun t => decide (t.length ≤ 100)
def few03 (l : List MSet) : Bool := l.all fewSet03

theorem all_take_succ {α : Type} {p : α → Bool} {l : List α} {i : Nat} (h : i < l.length) : (l.take (i + 1)).all p = ((l.take i).all p && p l[i]) := by
  rw [List.take_succ_eq_append_getElem h, List.all_append]; simp

theorem all_false_of {α : Type} {p : α → Bool} {l : List α} {i : Nat} (h : i < l.length) (hp : p l[i] = false) : l.all p = false := by
  rw [List.all_eq_false]; exact ⟨l[i], List.getElem_mem _, by simp [hp]⟩

theorem all_true_of {α : Type} {p : α → Bool} {l : List α} {i : Nat} (h : l.length ≤ i) (hp : (l.take i).all p = true) : l.all p = true := by
  rwa [List.take_of_length_le h] at hp

/-! arbourref05.sets, arbourref05.Few -/
mutual
def sets05 : MExpr → Bool
  | .mk _ _ s l => few03 [s] && setsL05 l
def setsL05 : List MExpr → Bool
  | [] => true
  | x :: r => sets05 x && setsL05 r
end
theorem setsL05_eq (l : List MExpr) : setsL05 l = l.all sets05 := by
  induction l with
  | nil => simp [setsL05]
  | cons x l ih => simp [setsL05, ih]
def few05 (x : MExpr) : Bool := if cnt05 x 0 ≥ 100 || deep05 x 0 ≥ 20 then false else sets05 x

/-! Boxes, filters -/
structure MBox where
  s0 : MSet
  s1 : MSet
  s2 : MSet
  s3 : MSet
  deriving DecidableEq, Inhabited
def MBox.list (b : MBox) : List MSet := [b.s0, b.s1, b.s2, b.s3]
def encBox (b : MBox) : List DV := encSet b.s0 ++ encSet b.s1 ++ encSet b.s2 ++ encSet b.s3
theorem encBox_length (b : MBox) : (encBox b).length = 16 := by simp [encBox, encSet]
abbrev MFilter := List MBox
def encFilter (f : MFilter) : DV := .sl (f.map encBox)

/-! arbourref04.Few, arbourref06.Few -/
def few04 (l : List MBox) : Bool := l.all fun b => few03 b.list
def few06 (l : List MBox) : Bool := decide (l.length ≤ 20) && few04 l

structure MEntry where
  id : Int
  f : MFilter
  slack : Int
  deriving DecidableEq, Inhabited
def encEntry (e : MEntry) : List DV := [.i .i64 e.id, encFilter e.f, .i .u64 e.slack]
def few14 (l : List MEntry) : Bool := (l.all fun e => few06 e.f) && decide (l.length ≤ 12)

structure MValue where
  kind : Int
  n : Int
  s : List UInt8
  deriving DecidableEq, Inhabited
def encValue (v : MValue) : List DV := [.i .i64 v.kind, .i .i64 v.n, .s v.s]
structure MEvent where
  e0 : MValue
  e1 : MValue
  e2 : MValue
  e3 : MValue
  deriving DecidableEq, Inhabited
def encEvent (e : MEvent) : List DV := encValue e.e0 ++ encValue e.e1 ++ encValue e.e2 ++ encValue e.e3
structure MDelta where
  adds : List MEntry
  removes : List Int
  deriving DecidableEq, Inhabited
def encDelta (d : MDelta) : List DV := [.sl (d.adds.map encEntry), .sl (encInts d.removes)]
structure MPub where
  id : Int
  client : Int
  e : MEvent
  deriving DecidableEq, Inhabited
def encPub (p : MPub) : List DV := [.i .i64 p.id, .i .i64 p.client] ++ encEvent p.e
structure MFrame where
  isPub : Bool
  d : MDelta
  p : MPub
  deriving DecidableEq, Inhabited
def encFrame (f : MFrame) : List DV := [.b f.isPub] ++ encDelta f.d ++ encPub f.p
def few15 (f : MFrame) : Bool := few14 f.d.adds && decide (f.d.removes.length ≤ 40) &&
  decide (IntKind.i64.wrap (IntKind.i64.wrap (IntKind.i64.wrap ((f.p.e.e0.s.length : Int) + f.p.e.e1.s.length) + f.p.e.e2.s.length) + f.p.e.e3.s.length) ≤ 300)
end Go.Arb
end

section
set_option linter.unusedSimpArgs false
set_option linter.unusedVariables false
namespace Go.Arb
open Go Go.Proofs

theorem count05_spec (G N) : ∀ (m : Nat) (x : MExpr) (deep : Int) (σ : Store), SizeOf.sizeOf x ≤ m → 0 ≤ deep → deep ≤ 100 → acalls ⟨Tryz.prog, N, G⟩ 43 [.agg (encExpr x), .i .i64 deep] σ (fun d σ' => d = .i .i64 (cnt05 x deep) ∧ σ' = σ) := by
  intro m
  induction m with
  | zero => intro x; cases x; intro _ _ h; simp at h
  | succ m ih =>
  intro x deep σ hm hd0 hd1
  obtain ⟨k, a, s, sub⟩ := x
  refine acalls_enterL Tryz.func43 rfl Tryz.ntmps43 (by decide) (by simp) ?_
  refine awp_seq ?_
  refine awp_region (awpL_go [] fun K hK => ?_)
  simp [encExpr]
  refine hK _ _ (awpL_nil ?_)
  clear hK
  simp only [Then, InBlock]
  refine awp_seq ?_
  refine awp_region (awpL_go [] fun K hK => ?_)
  simp
  refine hK _ _ (awpL_nil ?_)
  clear hK
  simp only [Then, InBlock]
  refine awp_seq ?_
  refine awp_seq ?_
  refine awp_region (awpL_go [] fun K hK => ?_)
  simp
  refine hK _ _ (awpL_nil ?_)
  clear hK
  simp only [Then, InBlock]
  refine awp_cond (by simp; rfl) (fun hc => ?_) (fun hc => ?_)
  · simp at hc
    refine awp_seq ?_
    refine awp_region (awpL_go [] fun K hK => ?_)
    simp
    refine hK _ _ (awpL_nil ?_)
    clear hK
    simp only [Then, InBlock]
    refine awp_ret ?_
    simp [Body, cnt05, hc]
  · simp at hc
    refine awp_skip ?_
    simp only [Then, InBlock]
    refine awp_seq ?_
    refine awp_seq ?_
    refine awp_region (awpL_go [] fun K hK => ?_)
    simp
    refine hK _ _ (awpL_nil ?_)
    clear hK
    simp only [Then, InBlock]
    refine awp_block ?_
    refine awp_forS sub.length (fun i n => 1 ≤ n ∧ n ≤ 199 ∧ cntL05 (sub.drop i) (deep + 1) n = cntL05 sub (deep + 1) 1)
      (fun i n => [(1, .i .i64 deep), (2, .dp (encExpr (.mk k a s sub)) 0), (5, .i .i64 n), (6, .i .i64 i)]) (fun _ _ => σ) 0 1 (Nat.zero_le _) (by simp) ?_ rfl ?_
    · repeat refine Fits_cons (by simp [encExpr]) ?_
      exact Fits_nil
    · intro i n hi0 hi hJ
      refine awp_seq ?_
      refine awp_seq ?_
      refine awp_region (awpL_go [] fun K hK => ?_)
      simp [encExpr, encExprs_length]
      refine hK _ _ (awpL_nil ?_)
      clear hK
      simp only [Then, InBlock]
      refine awp_len (t := 11) (es := encExprs sub) (by decide) (by simp) fun hlen => ?_
      rw [encExprs_length] at hlen
      refine awp_cond (by simp; rfl) (fun hc => ?_) (fun hc => ?_)
      · simp at hc
        have hg : (encExprs sub)[i]? = some (encExpr sub[i]) := by simp [encExprs_get, hc.1]
        have hw : IntKind.i64.wrap (deep + 1) = deep + 1 := wrap_id (by omega)
        refine awp_skip ?_
        simp only [Then, InBlock]
        refine awp_seq ?_
        refine awp_block ?_
        refine awp_region (awpL_go [] fun K hK => ?_)
        simp [hg, encExpr_length, encExpr_take]
        have hms : SizeOf.sizeOf sub[i] ≤ m := by
          have := List.sizeOf_lt_of_mem (List.getElem_mem (l := sub) hc.1)
          simp at hm
          omega
        refine hK _ _ (awpL_callS rfl rfl rfl (by simp) (by simp [hw]) (ih sub[i] (deep + 1) σ hms (by omega) (by omega)) ?_)
        clear hK
        rintro _ _ ⟨rfl, rfl⟩
        refine awpL_go [] fun K hK => ?_
        have hb := cnt05_bound sub[i] (deep + 1)
        have hw2 : IntKind.i64.wrap (n + cnt05 sub[i] (deep + 1)) = n + cnt05 sub[i] (deep + 1) := wrap_id (by omega)
        simp [hw2]
        refine hK _ _ (awpL_nil ?_)
        clear hK
        simp only [Then, InBlock]
        refine awp_region (awpL_go [] fun K hK => ?_)
        simp
        refine hK _ _ (awpL_nil ?_)
        clear hK
        simp only [Then, InBlock]
        refine ⟨i + 1, n + cnt05 sub[i] (deep + 1), by omega, by omega, ⟨by omega, by omega, ?_⟩, ?_, by simp⟩
        · rw [← hJ.2.2, List.drop_eq_getElem_cons hc.1, cntL05, if_pos hc.2]
        · rw [wrap_succ hc.1 hlen]
          repeat refine Fits_cons (by simp [encExpr]) ?_
          exact Fits_nil
      · simp at hc
        refine awp_exit ?_
        simp [InBlock, Then]
        refine awp_seq ?_
        refine awp_region (awpL_go [] fun K hK => ?_)
        simp
        refine hK _ _ (awpL_nil ?_)
        clear hK
        simp only [Then, InBlock]
        refine awp_ret ?_
        have hend : cntL05 sub (deep + 1) 1 = n := by
          rw [← hJ.2.2]
          rcases Nat.lt_or_ge i sub.length with h | h
          · rw [List.drop_eq_getElem_cons h, cntL05, if_neg (by have := hc h; omega)]
          · rw [List.drop_of_length_le h, cntL05]
        have hc0 : ¬ deep > 20 := by omega
        simp [Body, cnt05, hend, hc0]
        omega
theorem deep05_spec (G N) : ∀ (m : Nat) (x : MExpr) (deep : Int) (σ : Store), SizeOf.sizeOf x ≤ m → 0 ≤ deep → deep ≤ 100 → acalls ⟨Tryz.prog, N, G⟩ 44 [.agg (encExpr x), .i .i64 deep] σ (fun d σ' => d = .i .i64 (deep05 x deep) ∧ σ' = σ) := by
  intro m
  induction m with
  | zero => intro x; cases x; intro _ _ h; simp at h
  | succ m ih =>
  intro x deep σ hm hd0 hd1
  obtain ⟨k, a, s, sub⟩ := x
  refine acalls_enterL Tryz.func44 rfl Tryz.ntmps44 (by decide) (by simp) ?_
  refine awp_seq ?_
  refine awp_region (awpL_go [] fun K hK => ?_)
  simp [encExpr]
  refine hK _ _ (awpL_nil ?_)
  clear hK
  simp only [Then, InBlock]
  refine awp_seq ?_
  refine awp_region (awpL_go [] fun K hK => ?_)
  simp
  refine hK _ _ (awpL_nil ?_)
  clear hK
  simp only [Then, InBlock]
  refine awp_seq ?_
  refine awp_seq ?_
  refine awp_region (awpL_go [] fun K hK => ?_)
  simp
  refine hK _ _ (awpL_nil ?_)
  clear hK
  simp only [Then, InBlock]
  refine awp_cond (by simp; rfl) (fun hc => ?_) (fun hc => ?_)
  · simp at hc
    refine awp_seq ?_
    refine awp_region (awpL_go [] fun K hK => ?_)
    simp
    refine hK _ _ (awpL_nil ?_)
    clear hK
    simp only [Then, InBlock]
    refine awp_ret ?_
    simp [Body, deep05, hc]
  · simp at hc
    refine awp_skip ?_
    simp only [Then, InBlock]
    refine awp_seq ?_
    refine awp_seq ?_
    refine awp_region (awpL_go [] fun K hK => ?_)
    simp
    refine hK _ _ (awpL_nil ?_)
    clear hK
    simp only [Then, InBlock]
    refine awp_block ?_
    refine awp_forS sub.length (fun i n => 0 ≤ n ∧ n ≤ 20 ∧ deepL05 (sub.drop i) (deep + 1) i n = deepL05 sub (deep + 1) 0 0)
      (fun i n => [(1, .i .i64 deep), (2, .dp (encExpr (.mk k a s sub)) 0), (5, .i .i64 n), (6, .i .i64 i)]) (fun _ _ => σ) 0 0 (Nat.zero_le _) (by simp) ?_ rfl ?_
    · repeat refine Fits_cons (by simp [encExpr]) ?_
      exact Fits_nil
    · intro i n hi0 hi hJ
      refine awp_seq ?_
      refine awp_seq ?_
      refine awp_region (awpL_go [] fun K hK => ?_)
      simp [encExpr, encExprs_length]
      refine hK _ _ (awpL_nil ?_)
      clear hK
      simp only [Then, InBlock]
      refine awp_len (t := 11) (es := encExprs sub) (by decide) (by simp) fun hlen => ?_
      rw [encExprs_length] at hlen
      refine awp_cond (by simp; rfl) (fun hc => ?_) (fun hc => ?_)
      · simp at hc
        have hg : (encExprs sub)[i]? = some (encExpr sub[i]) := by simp [encExprs_get, hc.1]
        have hw : IntKind.i64.wrap (deep + 1) = deep + 1 := wrap_id (by omega)
        refine awp_skip ?_
        simp only [Then, InBlock]
        refine awp_seq ?_
        refine awp_block ?_
        refine awp_region (awpL_go [] fun K hK => ?_)
        simp [hg, encExpr_length, encExpr_take]
        have hms : SizeOf.sizeOf sub[i] ≤ m := by
          have := List.sizeOf_lt_of_mem (List.getElem_mem (l := sub) hc.1)
          simp at hm
          omega
        refine hK _ _ (awpL_callS rfl rfl rfl (by simp) (by simp [hw]) (ih sub[i] (deep + 1) σ hms (by omega) (by omega)) ?_)
        clear hK
        rintro _ _ ⟨rfl, rfl⟩
        refine awpL_go [] fun K hK => ?_
        have hb := deep05_bound sub[i] (deep + 1)
        simp
        refine hK _ _ (awpL_nil ?_)
        clear hK
        simp only [Then, InBlock]
        refine awp_region (awpL_go [] fun K hK => ?_)
        simp
        refine hK _ _ (awpL_nil ?_)
        clear hK
        simp only [Then, InBlock]
        refine ⟨i + 1, (if deep05 sub[i] (deep + 1) > n then deep05 sub[i] (deep + 1) else n), by omega, by omega, ⟨by split <;> omega, by split <;> omega, ?_⟩, ?_, by simp⟩
        · rw [← hJ.2.2, List.drop_eq_getElem_cons hc.1, deepL05, if_pos (show i < 100 by have := hc.2; omega)]
        · rw [wrap_succ hc.1 hlen]
          repeat refine Fits_cons (by simp [encExpr]) ?_
          exact Fits_nil
      · simp at hc
        refine awp_exit ?_
        simp [InBlock, Then]
        refine awp_seq ?_
        have hw0 : IntKind.i64.wrap (n + 1) = n + 1 := wrap_id (by omega)
        refine awp_region (awpL_go [] fun K hK => ?_)
        simp [hw0]
        refine hK _ _ (awpL_nil ?_)
        clear hK
        simp only [Then, InBlock]
        refine awp_ret ?_
        have hend : deepL05 sub (deep + 1) 0 0 = n := by
          rw [← hJ.2.2]
          rcases Nat.lt_or_ge i sub.length with h | h
          · rw [List.drop_eq_getElem_cons h, deepL05, if_neg (by have := hc h; omega)]
          · rw [List.drop_of_length_le h, deepL05]
        have hw3 : IntKind.i64.wrap (n + 1) = n + 1 := wrap_id (by omega)
        have hc0 : ¬ deep > 20 := by omega
        simp [Body, deep05, hend, hc0, hw3]
        omega
theorem few03_spec (G N) (l : List MSet) (σ : Store) : acalls ⟨Tryz.prog, N, G⟩ 67 [.sl (l.map encSet)] σ (fun d σ' => d = .b (few03 l) ∧ σ' = σ) := by
  refine acalls_enterL Tryz.func67 rfl Tryz.ntmps67 (by decide) (by simp) ?_
  refine awp_len (t := 0) (es := l.map encSet) (by decide) rfl fun hlen => ?_
  simp at hlen
  refine awp_seq ?_
  refine awp_region (awpL_go [] fun K hK => ?_)
  simp
  refine hK _ _ (awpL_nil ?_)
  clear hK
  simp only [Then, InBlock]
  refine awp_seq ?_
  refine awp_seq ?_
  refine awp_region (awpL_go [] fun K hK => ?_)
  simp
  refine hK _ _ (awpL_nil ?_)
  clear hK
  simp only [Then, InBlock]
  refine awp_block ?_
  refine awp_for l.length (fun i => (l.take i).all fewSet03 = true) (fun i => [(0, .sl (l.map encSet)), (3, .i .i64 i)]) (fun _ => σ) 0 (Nat.zero_le _) (by simp) ?_ rfl ?_
  · repeat refine Fits_cons (by simp) ?_
    exact Fits_nil
  · intro i hi0 hi hJ
    refine awp_seq ?_
    refine awp_seq ?_
    refine awp_region (awpL_go [] fun K hK => ?_)
    simp
    refine hK _ _ (awpL_nil ?_)
    clear hK
    simp only [Then, InBlock]
    refine awp_cond (by simp; rfl) (fun hc => ?_) (fun hc => ?_)
    · simp at hc
      have hil := hc
      refine awp_skip ?_
      simp only [Then, InBlock]
      refine awp_seq ?_
      refine awp_block ?_
      refine awp_seq ?_
      refine awp_seq ?_
      refine awp_region (awpL_go [] fun K hK => ?_)
      simp [hil, encSet, encStrs]
      refine hK _ _ (awpL_nil ?_)
      clear hK
      simp only [Then, InBlock]
      refine awp_cond (by simp; rfl) (fun hc => ?_) (fun hc => ?_)
      · simp at hc
        refine awp_seq ?_
        refine awp_region (awpL_go [] fun K hK => ?_)
        simp
        refine hK _ _ (awpL_nil ?_)
        clear hK
        simp only [Then, InBlock]
        refine awp_ret ?_
        simp [Body]
        exact all_false_of hil (by simp [fewSet03]; omega)
      · simp at hc
        have h40 := hc
        refine awp_skip ?_
        simp only [Then, InBlock]
        refine awp_seq ?_
        refine awp_region (awpL_go [] fun K hK => ?_)
        simp
        refine hK _ _ (awpL_nil ?_)
        clear hK
        simp only [Then, InBlock]
        refine awp_block ?_
        -- HOLE loop
        refine awp_for l[i].strs.length (fun j => (l[i].strs.take j).all (fun t => decide (t.length ≤ 100)) = true) (fun j => [(0, .sl (l.map encSet)), (3, .i .i64 i), (4, .i .i64 j)]) (fun _ => σ) 0 (Nat.zero_le _) (by simp) ?_ rfl ?_
        · repeat refine Fits_cons (by simp) ?_
          exact Fits_nil
        · intro j hj0 hj hJ2
          refine awp_seq ?_
          refine awp_seq ?_
          refine awp_region (awpL_go [] fun K hK => ?_)
          simp [hil, encSet, encStrs]
          refine hK _ _ (awpL_nil ?_)
          clear hK
          simp only [Then, InBlock]
          refine awp_cond (by simp; rfl) (fun hc => ?_) (fun hc => ?_)
          · simp at hc
            have hjl := hc
            refine awp_skip ?_
            simp only [Then, InBlock]
            refine awp_seq ?_
            refine awp_block ?_
            refine awp_seq ?_
            refine awp_region (awpL_go [] fun K hK => ?_)
            simp [hil, hjl, encSet, encStrs]
            refine hK _ _ (awpL_nil ?_)
            clear hK
            simp only [Then, InBlock]
            refine awp_cond (by simp; rfl) (fun hc => ?_) (fun hc => ?_)
            · simp at hc
              refine awp_seq ?_
              refine awp_region (awpL_go [] fun K hK => ?_)
              simp
              refine hK _ _ (awpL_nil ?_)
              clear hK
              simp only [Then, InBlock]
              refine awp_ret ?_
              simp [Body]
              exact all_false_of hil (by simp [fewSet03]; intro _ _; exact ⟨l[i].strs[j], List.getElem_mem _, by omega⟩)
            · simp at hc
              refine awp_skip ?_
              simp only [Then, InBlock]
              refine awp_region (awpL_go [] fun K hK => ?_)
              simp
              refine hK _ _ (awpL_nil ?_)
              clear hK
              simp only [Then, InBlock]
              refine ⟨j + 1, by omega, by omega, ?_, ?_, by simp⟩
              · rw [all_take_succ hjl, hJ2]; simp; omega
              · have hsl : l[i].strs.length ≤ maxLen := by unfold maxLen; omega
                rw [wrap_succ hjl hsl]
                repeat refine Fits_cons (by simp) ?_
                exact Fits_nil


          · simp at hc
            refine awp_exit ?_
            repeat first | refine Then_exit ?_ | refine InBlock_other (by decide) ?_
            refine InBlock_here ?_
            simp only [Then, InBlock]
            refine awp_region (awpL_go [] fun K hK => ?_)
            simp
            refine hK _ _ (awpL_nil ?_)
            clear hK
            simp only [Then, InBlock]
            refine ⟨i + 1, by omega, by omega, ?_, ?_, by simp⟩
            · rw [all_take_succ hil, hJ]; have hs := all_true_of (by omega) hJ2; simp only [fewSet03, hs]; simp; omega
            · rw [wrap_succ hil hlen]
              repeat refine Fits_cons (by simp) ?_
              exact Fits_nil


    · simp at hc
      refine awp_exit ?_
      repeat first | refine Then_exit ?_ | refine InBlock_other (by decide) ?_
      refine InBlock_here ?_
      simp only [Then, InBlock]
      refine awp_seq ?_
      refine awp_region (awpL_go [] fun K hK => ?_)
      simp
      refine hK _ _ (awpL_nil ?_)
      clear hK
      simp only [Then, InBlock]
      refine awp_ret ?_
      simp [Body]
      exact all_true_of (by omega) hJ
end Go.Arb
end

section
set_option linter.unusedSimpArgs false
set_option linter.unusedVariables false
namespace Go.Arb
open Go Go.Proofs

theorem sets05_spec (G N) : ∀ (m : Nat) (x : MExpr) (σ : Store), SizeOf.sizeOf x ≤ m → acalls ⟨Tryz.prog, N, G⟩ 45 [.agg (encExpr x)] σ (fun d σ' => d = .b (sets05 x) ∧ σ' = σ) := by
  intro m
  induction m with
  | zero => intro x; cases x; intro _ h; simp at h
  | succ m ih =>
  intro x σ hm
  obtain ⟨k, a, s, sub⟩ := x
  refine acalls_enterL Tryz.func45 rfl Tryz.ntmps45 (by decide) (by simp) ?_
  refine awp_seq ?_
  refine awp_region (awpL_go [] fun K hK => ?_)
  simp [encExpr]
  refine hK _ _ (awpL_nil ?_)
  clear hK
  simp only [Then, InBlock]
  refine awp_seq ?_
  refine awp_seq ?_
  refine awp_region (awpL_go [] fun K hK => ?_)
  simp [bsD]
  -- CALL F<arbourref03.Few>
  refine hK _ _ (awpL_callS rfl rfl rfl (by simp) (by simp [encSet]) (few03_spec G N [s] σ) ?_)
  clear hK
  rintro _ _ ⟨rfl, hst⟩
  rw [hst]
  refine awpL_go [] fun K hK => ?_
  simp
  refine hK _ _ (awpL_nil ?_)
  clear hK
  simp only [Then, InBlock]
  refine awp_cond rfl (fun hc => ?_) (fun hc => ?_)
  · simp at hc
    refine awp_seq ?_
    refine awp_region (awpL_go [] fun K hK => ?_)
    simp
    refine hK _ _ (awpL_nil ?_)
    clear hK
    simp only [Then, InBlock]
    refine awp_ret ?_
    simp [Body, sets05, hc]
  · simp at hc
    have hcf := hc
    refine awp_skip ?_
    simp only [Then, InBlock]
    refine awp_seq ?_
    refine awp_seq ?_
    refine awp_region (awpL_go [] fun K hK => ?_)
    simp
    refine hK _ _ (awpL_nil ?_)
    clear hK
    simp only [Then, InBlock]
    refine awp_block ?_
    -- HOLE loop
    refine awp_for sub.length (fun i => (sub.take i).all sets05 = true) (fun i => [(1, .dp (encExpr (.mk k a s sub)) 0), (3, .i .i64 i)]) (fun _ => σ) 0 (Nat.zero_le _) (by simp) ?_ rfl ?_
    · repeat refine Fits_cons (by simp [encExpr]) ?_
      exact Fits_nil
    · intro i hi0 hi hJ
      refine awp_seq ?_
      refine awp_seq ?_
      refine awp_region (awpL_go [] fun K hK => ?_)
      simp [encExpr, encExprs_length]
      refine hK _ _ (awpL_nil ?_)
      clear hK
      simp only [Then, InBlock]
      refine awp_len (t := 11) (es := encExprs sub) (by decide) (by simp) fun hlen => ?_
      rw [encExprs_length] at hlen
      refine awp_cond rfl (fun hc => ?_) (fun hc => ?_)
      · simp at hc
        have hil := hc
        have hg : (encExprs sub)[i]? = some (encExpr sub[i]) := by simp [encExprs_get, hil]
        have hms : SizeOf.sizeOf sub[i] ≤ m := by
          have := List.sizeOf_lt_of_mem (List.getElem_mem (l := sub) hil)
          simp at hm
          omega
        refine awp_skip ?_
        simp only [Then, InBlock]
        refine awp_seq ?_
        refine awp_block ?_
        refine awp_seq ?_
        refine awp_region (awpL_go [] fun K hK => ?_)
        simp [hg, encExpr_length, encExpr_take]
        -- CALL F<arbourref05.sets>
        refine hK _ _ (awpL_callS rfl rfl rfl (by simp) (by simp) (ih sub[i] σ hms) ?_)
        clear hK
        rintro _ _ ⟨rfl, hst⟩
        rw [hst]
        refine awpL_go [] fun K hK => ?_
        simp
        refine hK _ _ (awpL_nil ?_)
        clear hK
        simp only [Then, InBlock]
        refine awp_cond rfl (fun hc => ?_) (fun hc => ?_)
        · simp at hc
          refine awp_seq ?_
          refine awp_region (awpL_go [] fun K hK => ?_)
          simp
          refine hK _ _ (awpL_nil ?_)
          clear hK
          simp only [Then, InBlock]
          refine awp_ret ?_
          have := all_false_of hil hc
          simp [Body, sets05, setsL05_eq, this]
        · simp at hc
          refine awp_skip ?_
          simp only [Then, InBlock]
          refine awp_region (awpL_go [] fun K hK => ?_)
          simp
          refine hK _ _ (awpL_nil ?_)
          clear hK
          simp only [Then, InBlock]
          -- HOLE end of a round
          refine ⟨i + 1, by omega, by omega, ?_, ?_, by simp⟩
          · rw [all_take_succ hil, hJ]; simp [hc]
          · rw [wrap_succ hil hlen]
            repeat refine Fits_cons (by simp [encExpr]) ?_
            exact Fits_nil
      · simp at hc
        refine awp_exit ?_
        repeat first | refine Then_exit ?_ | refine InBlock_other (by decide) ?_
        refine InBlock_here ?_
        simp only [Then, InBlock]
        refine awp_seq ?_
        refine awp_region (awpL_go [] fun K hK => ?_)
        simp
        refine hK _ _ (awpL_nil ?_)
        clear hK
        simp only [Then, InBlock]
        refine awp_ret ?_
        have := all_true_of (by omega) hJ
        simp [Body, sets05, setsL05_eq, this, hcf]
end Go.Arb
end

section
set_option linter.unusedSimpArgs false
set_option linter.unusedVariables false
namespace Go.Arb
open Go Go.Proofs

theorem few05_spec (G N) (x : MExpr) (σ : Store) : acalls ⟨Tryz.prog, N, G⟩ 17 [.agg (encExpr x)] σ (fun d σ' => d = .b (few05 x) ∧ σ' = σ) := by
  refine acalls_enterL Tryz.func17 rfl Tryz.ntmps17 (by decide) (by simp) ?_
  refine awp_seq ?_
  refine awp_region (awpL_go [] fun K hK => ?_)
  simp [encExpr_length, encExpr_take]
  refine hK _ _ (awpL_nil ?_)
  clear hK
  simp only [Then, InBlock]
  refine awp_seq ?_
  refine awp_seq ?_
  refine awp_region (awpL_go [] fun K hK => ?_)
  simp [encExpr_length, encExpr_take]
  -- CALL F<arbourref05.Count>
  refine hK _ _ (awpL_callS rfl rfl rfl (by simp) (by simp) (count05_spec G N _ x 0 σ (Nat.le_refl _) (by omega) (by omega)) ?_)
  clear hK
  rintro _ _ ⟨rfl, hst⟩
  rw [hst]
  refine awpL_go [8] fun K hK => ?_
  simp [encExpr_length, encExpr_take]
  have hd := deep05_bound x 0
  refine hK _ _ (awpL_callG (v := .i .i64 (deep05 x 0)) rfl rfl rfl rfl (by simp) (by simp) (fun _ => deep05_spec G N _ x 0 σ (Nat.le_refl _) (by omega) (by omega)) ?_)
  clear hK
  refine awpL_go [] fun K hK => ?_
  simp
  refine hK _ _ (awpL_nil ?_)
  clear hK
  simp only [Then, InBlock]
  refine awp_cond rfl (fun hc => ?_) (fun hc => ?_)
  · simp at hc
    refine awp_seq ?_
    refine awp_region (awpL_go [] fun K hK => ?_)
    simp
    refine hK _ _ (awpL_nil ?_)
    clear hK
    simp only [Then, InBlock]
    refine awp_ret ?_
    simp [Body, few05]
    omega
  · simp at hc
    refine awp_skip ?_
    simp only [Then, InBlock]
    refine awp_seq ?_
    refine awp_region (awpL_go [] fun K hK => ?_)
    simp [encExpr_length, encExpr_take]
    -- CALL F<arbourref05.sets>
    refine hK _ _ (awpL_callS rfl rfl rfl (by simp) (by simp) (sets05_spec G N _ x σ (Nat.le_refl _)) ?_)
    clear hK
    rintro _ _ ⟨rfl, hst⟩
    rw [hst]
    refine awpL_go [] fun K hK => ?_
    simp
    refine hK _ _ (awpL_nil ?_)
    clear hK
    simp only [Then, InBlock]
    refine awp_ret ?_
    simp [Body, few05]
    intro h; omega
end Go.Arb
end

section
set_option linter.unusedSimpArgs false
set_option linter.unusedVariables false
namespace Go.Arb
open Go Go.Proofs

theorem few04_spec (G N) (l : List MBox) (σ : Store) : acalls ⟨Tryz.prog, N, G⟩ 90 [.sl (l.map encBox)] σ (fun d σ' => d = .b (few04 l) ∧ σ' = σ) := by
  refine acalls_enterL Tryz.func90 rfl Tryz.ntmps90 (by decide) (by simp) ?_
  refine awp_len (t := 0) (es := l.map encBox) (by decide) rfl fun hlen => ?_
  simp at hlen
  refine awp_seq ?_
  refine awp_region (awpL_go [] fun K hK => ?_)
  simp
  refine hK _ _ (awpL_nil ?_)
  clear hK
  simp only [Then, InBlock]
  refine awp_seq ?_
  refine awp_seq ?_
  refine awp_region (awpL_go [] fun K hK => ?_)
  simp
  refine hK _ _ (awpL_nil ?_)
  clear hK
  simp only [Then, InBlock]
  refine awp_block ?_
  -- HOLE loop
  refine awp_for l.length (fun i => (l.take i).all (fun b => few03 b.list) = true) (fun i => [(0, .sl (l.map encBox)), (3, .i .i64 i)]) (fun _ => σ) 0 (Nat.zero_le _) (by simp) ?_ rfl ?_
  · repeat refine Fits_cons (by simp) ?_
    exact Fits_nil
  · intro i hi0 hi hJ
    refine awp_seq ?_
    refine awp_seq ?_
    refine awp_region (awpL_go [] fun K hK => ?_)
    simp
    refine hK _ _ (awpL_nil ?_)
    clear hK
    simp only [Then, InBlock]
    refine awp_cond rfl (fun hc => ?_) (fun hc => ?_)
    · simp at hc
      have hil := hc
      refine awp_skip ?_
      simp only [Then, InBlock]
      refine awp_seq ?_
      refine awp_block ?_
      refine awp_seq ?_
      refine awp_draw (fun _ => .pure) [0, 1, 2, 3, 4, 5, 6, 7, 8, 9, 10, 11, 12, 13, 14, 15, 16, 17, 18, 19, 20, 21, 22] (by kernel_rfl) rfl (by kernel_rfl) (ow_go fun K hK => ?_)
      simp [hil, encBox_length, bsD]
      simp [encBox, encSet, List.range']
      refine hK _ _ ?_
      clear hK
      refine ow_callPS (ds := [.sl (l[i].list.map encSet)]) (.b (few03 l[i].list)) rfl rfl rfl rfl rfl (by simp) (by simp [MBox.list, encSet]) (fun _ σ => few03_spec G N l[i].list σ) ?_
      refine ow_go fun K hK => ?_
      simp
      refine hK _ _ (ow_nil ?_)
      clear hK
      simp only [Then, InBlock]
      refine awp_cond rfl (fun hc => ?_) (fun hc => ?_)
      · simp at hc
        refine awp_seq ?_
        refine awp_region (awpL_go [] fun K hK => ?_)
        simp
        refine hK _ _ (awpL_nil ?_)
        clear hK
        simp only [Then, InBlock]
        refine awp_ret ?_
        have := all_false_of (p := fun b => few03 b.list) hil hc
        simp [Body, few04, this]
      · simp at hc
        refine awp_skip ?_
        simp only [Then, InBlock]
        refine awp_region (awpL_go [] fun K hK => ?_)
        simp
        refine hK _ _ (awpL_nil ?_)
        clear hK
        simp only [Then, InBlock]
        -- HOLE end of a round
        refine ⟨i + 1, by omega, by omega, ?_, ?_, by simp⟩
        · rw [all_take_succ hil, hJ]; simp [hc]
        · rw [wrap_succ hil hlen]
          repeat refine Fits_cons (by simp) ?_
          exact Fits_nil
    · simp at hc
      refine awp_exit ?_
      repeat first | refine Then_exit ?_ | refine InBlock_other (by decide) ?_
      refine InBlock_here ?_
      simp only [Then, InBlock]
      refine awp_seq ?_
      refine awp_region (awpL_go [] fun K hK => ?_)
      simp
      refine hK _ _ (awpL_nil ?_)
      clear hK
      simp only [Then, InBlock]
      refine awp_ret ?_
      have := all_true_of (by omega) hJ
      simp [Body, few04, this]

end Go.Arb
end

section
set_option linter.unusedSimpArgs false
set_option linter.unusedVariables false
namespace Go.Arb
open Go Go.Proofs

theorem few06_spec (G N) (f : MFilter) (σ : Store) : acalls ⟨Tryz.prog, N, G⟩ 68 [encFilter f] σ (fun d σ' => d = .b (few06 f) ∧ σ' = σ) := by
  refine acalls_enterL Tryz.func68 rfl Tryz.ntmps68 (by decide) (by simp) ?_
  refine awp_seq ?_
  refine awp_region (awpL_go [] fun K hK => ?_)
  simp [encFilter]
  refine hK _ _ (awpL_nil ?_)
  clear hK
  simp only [Then, InBlock]
  refine awp_seq ?_
  refine awp_region (awpL_go [8] fun K hK => ?_)
  simp
  refine hK _ _ ?_
  clear hK
  refine awpL_callG (v := .b (few04 f)) rfl rfl rfl rfl (by simp) (by simp) (fun _ => few04_spec G N f σ) ?_
  refine awpL_go [] fun K hK => ?_
  simp
  refine hK _ _ (awpL_nil ?_)
  clear hK
  simp only [Then, InBlock]
  refine awp_ret ?_
  have hcast : ((List.length f : Int) ≤ 20) ↔ (List.length f ≤ 20) := by omega
  simp [Body, few06, hcast]

theorem few14_spec (G N) (l : List MEntry) (σ : Store) : acalls ⟨Tryz.prog, N, G⟩ 46 [.sl (l.map encEntry)] σ (fun d σ' => d = .b (few14 l) ∧ σ' = σ) := by
  refine acalls_enterL Tryz.func46 rfl Tryz.ntmps46 (by decide) (by simp) ?_
  refine awp_len (t := 0) (es := l.map encEntry) (by decide) rfl fun hlen => ?_
  simp at hlen
  refine awp_seq ?_
  refine awp_region (awpL_go [] fun K hK => ?_)
  simp
  refine hK _ _ (awpL_nil ?_)
  clear hK
  simp only [Then, InBlock]
  refine awp_seq ?_
  refine awp_seq ?_
  refine awp_region (awpL_go [] fun K hK => ?_)
  simp
  refine hK _ _ (awpL_nil ?_)
  clear hK
  simp only [Then, InBlock]
  refine awp_block ?_
  -- HOLE loop
  refine awp_for l.length (fun i => (l.take i).all (fun e => few06 e.f) = true) (fun i => [(0, .sl (l.map encEntry)), (3, .i .i64 i)]) (fun _ => σ) 0 (Nat.zero_le _) (by simp) ?_ rfl ?_
  · repeat refine Fits_cons (by simp) ?_
    exact Fits_nil
  · intro i hi0 hi hJ
    refine awp_seq ?_
    refine awp_seq ?_
    refine awp_region (awpL_go [] fun K hK => ?_)
    simp
    refine hK _ _ (awpL_nil ?_)
    clear hK
    simp only [Then, InBlock]
    refine awp_cond rfl (fun hc => ?_) (fun hc => ?_)
    · simp at hc
      have hil := hc
      refine awp_skip ?_
      simp only [Then, InBlock]
      refine awp_seq ?_
      refine awp_block ?_
      refine awp_seq ?_
      refine awp_region (awpL_go [] fun K hK => ?_)
      simp [hil, encEntry, encFilter]
      -- CALL F<arbourref06.Few>
      refine hK _ _ (awpL_callS rfl rfl rfl (by simp) (by simp [encFilter]) (few06_spec G N l[i].f σ) ?_)
      clear hK
      rintro _ _ ⟨rfl, hst⟩
      rw [hst]
      refine awpL_go [] fun K hK => ?_
      simp
      refine hK _ _ (awpL_nil ?_)
      clear hK
      simp only [Then, InBlock]
      refine awp_cond rfl (fun hc => ?_) (fun hc => ?_)
      · simp at hc
        refine awp_seq ?_
        refine awp_region (awpL_go [] fun K hK => ?_)
        simp
        refine hK _ _ (awpL_nil ?_)
        clear hK
        simp only [Then, InBlock]
        refine awp_ret ?_
        have := all_false_of (p := fun e : MEntry => few06 e.f) hil hc
        simp [Body, few14, this]
      · simp at hc
        refine awp_skip ?_
        simp only [Then, InBlock]
        refine awp_region (awpL_go [] fun K hK => ?_)
        simp
        refine hK _ _ (awpL_nil ?_)
        clear hK
        simp only [Then, InBlock]
        -- HOLE end of a round
        refine ⟨i + 1, by omega, by omega, ?_, ?_, by simp⟩
        · rw [all_take_succ hil, hJ]; simp [hc]
        · rw [wrap_succ hil hlen]
          repeat refine Fits_cons (by simp) ?_
          exact Fits_nil
    · simp at hc
      refine awp_exit ?_
      repeat first | refine Then_exit ?_ | refine InBlock_other (by decide) ?_
      refine InBlock_here ?_
      simp only [Then, InBlock]
      refine awp_seq ?_
      refine awp_region (awpL_go [] fun K hK => ?_)
      simp
      refine hK _ _ (awpL_nil ?_)
      clear hK
      simp only [Then, InBlock]
      refine awp_ret ?_
      have := all_true_of (by omega) hJ
      simp [Body, few14, this]
      omega

end Go.Arb
end
