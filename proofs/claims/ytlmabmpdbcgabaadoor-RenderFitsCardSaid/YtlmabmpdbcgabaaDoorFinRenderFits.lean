/- The law RenderFits: each case of it, and with them its walk. -/
import Derived.Test.YtlmabmpdbcgabaaDoorFinRenderFits0
import Derived.Test.YtlmabmpdbcgabaaDoorFinRenderFits1
import Derived.Test.YtlmabmpdbcgabaaDoorFinRenderFits2
import Derived.Test.YtlmabmpdbcgabaaDoorFinRenderFits3
import Derived.Test.YtlmabmpdbcgabaaDoorFinRenderFits4
import Derived.Test.YtlmabmpdbcgabaaDoorFinRenderFits5
import Derived.Test.YtlmabmpdbcgabaaDoorFinRenderFits6
import Derived.Test.YtlmabmpdbcgabaaDoorFinRenderFits7
import Derived.Test.YtlmabmpdbcgabaaDoorFinRenderFits8
import Derived.Test.YtlmabmpdbcgabaaDoorFinRenderFits9
import Derived.Test.YtlmabmpdbcgabaaDoorFinRenderFits10
import Derived.Test.YtlmabmpdbcgabaaDoorFinRenderFits11
import Derived.Test.YtlmabmpdbcgabaaDoorFinRenderFits12
import Derived.Test.YtlmabmpdbcgabaaDoorFinRenderFits13
import Derived.Test.YtlmabmpdbcgabaaDoorFinRenderFits14
import Derived.Test.YtlmabmpdbcgabaaDoorFinRenderFits15
import Derived.Test.YtlmabmpdbcgabaaDoorFinRenderFits16
import Derived.Test.YtlmabmpdbcgabaaDoorFinRenderFits17
import Derived.Test.YtlmabmpdbcgabaaDoorFinRenderFits18
import Derived.Test.YtlmabmpdbcgabaaDoorFinRenderFits19
import Derived.Test.YtlmabmpdbcgabaaDoorFinRenderFits20
import Derived.Test.YtlmabmpdbcgabaaDoorFinRenderFits21
import Derived.Test.YtlmabmpdbcgabaaDoorFinRenderFits22
import Derived.Test.YtlmabmpdbcgabaaDoorFinRenderFits23
import Derived.Test.YtlmabmpdbcgabaaDoorFinRenderFits24
import Derived.Test.YtlmabmpdbcgabaaDoorFinRenderFits25
import Derived.Test.YtlmabmpdbcgabaaDoorFinRenderFits26
import Derived.Test.YtlmabmpdbcgabaaDoorFinRenderFits27
import Derived.Test.YtlmabmpdbcgabaaDoorFinRenderFits28
import Derived.Test.YtlmabmpdbcgabaaDoorFinRenderFits29
import Derived.Test.YtlmabmpdbcgabaaDoorFinRenderFits30
import Derived.Test.YtlmabmpdbcgabaaDoorFinRenderFits31
namespace Go.Proofs.YtlmabmpdbcgabaaDoor.Fin
open Go.Proofs.YtlmabmpdbcgabaaDoor.Fast Go.RowKit
set_option linter.unusedVariables false

theorem renderFits_all (r0 : Nat) (r1 : Nat) (h0 : r0 < 256) (h1 : r1 < 11) : renderFitsGo r0 r1 = true := by
  match r0, h0 with
  | 0, _ =>
    exact alls_mem renderFits_0 r1 (List.mem_range.2 h1)
  | 1, _ =>
    exact alls_mem renderFits_1 r1 (List.mem_range.2 h1)
  | 2, _ =>
    exact alls_mem renderFits_2 r1 (List.mem_range.2 h1)
  | 3, _ =>
    exact alls_mem renderFits_3 r1 (List.mem_range.2 h1)
  | 4, _ =>
    exact alls_mem renderFits_4 r1 (List.mem_range.2 h1)
  | 5, _ =>
    exact alls_mem renderFits_5 r1 (List.mem_range.2 h1)
  | 6, _ =>
    exact alls_mem renderFits_6 r1 (List.mem_range.2 h1)
  | 7, _ =>
    exact alls_mem renderFits_7 r1 (List.mem_range.2 h1)
  | 8, _ =>
    exact alls_mem renderFits_8 r1 (List.mem_range.2 h1)
  | 9, _ =>
    exact alls_mem renderFits_9 r1 (List.mem_range.2 h1)
  | 10, _ =>
    exact alls_mem renderFits_10 r1 (List.mem_range.2 h1)
  | 11, _ =>
    exact alls_mem renderFits_11 r1 (List.mem_range.2 h1)
  | 12, _ =>
    exact alls_mem renderFits_12 r1 (List.mem_range.2 h1)
  | 13, _ =>
    exact alls_mem renderFits_13 r1 (List.mem_range.2 h1)
  | 14, _ =>
    exact alls_mem renderFits_14 r1 (List.mem_range.2 h1)
  | 15, _ =>
    exact alls_mem renderFits_15 r1 (List.mem_range.2 h1)
  | 16, _ =>
    exact alls_mem renderFits_16 r1 (List.mem_range.2 h1)
  | 17, _ =>
    exact alls_mem renderFits_17 r1 (List.mem_range.2 h1)
  | 18, _ =>
    exact alls_mem renderFits_18 r1 (List.mem_range.2 h1)
  | 19, _ =>
    exact alls_mem renderFits_19 r1 (List.mem_range.2 h1)
  | 20, _ =>
    exact alls_mem renderFits_20 r1 (List.mem_range.2 h1)
  | 21, _ =>
    exact alls_mem renderFits_21 r1 (List.mem_range.2 h1)
  | 22, _ =>
    exact alls_mem renderFits_22 r1 (List.mem_range.2 h1)
  | 23, _ =>
    exact alls_mem renderFits_23 r1 (List.mem_range.2 h1)
  | 24, _ =>
    exact alls_mem renderFits_24 r1 (List.mem_range.2 h1)
  | 25, _ =>
    exact alls_mem renderFits_25 r1 (List.mem_range.2 h1)
  | 26, _ =>
    exact alls_mem renderFits_26 r1 (List.mem_range.2 h1)
  | 27, _ =>
    exact alls_mem renderFits_27 r1 (List.mem_range.2 h1)
  | 28, _ =>
    exact alls_mem renderFits_28 r1 (List.mem_range.2 h1)
  | 29, _ =>
    exact alls_mem renderFits_29 r1 (List.mem_range.2 h1)
  | 30, _ =>
    exact alls_mem renderFits_30 r1 (List.mem_range.2 h1)
  | 31, _ =>
    exact alls_mem renderFits_31 r1 (List.mem_range.2 h1)
  | 32, _ =>
    exact alls_mem renderFits_32 r1 (List.mem_range.2 h1)
  | 33, _ =>
    exact alls_mem renderFits_33 r1 (List.mem_range.2 h1)
  | 34, _ =>
    exact alls_mem renderFits_34 r1 (List.mem_range.2 h1)
  | 35, _ =>
    exact alls_mem renderFits_35 r1 (List.mem_range.2 h1)
  | 36, _ =>
    exact alls_mem renderFits_36 r1 (List.mem_range.2 h1)
  | 37, _ =>
    exact alls_mem renderFits_37 r1 (List.mem_range.2 h1)
  | 38, _ =>
    exact alls_mem renderFits_38 r1 (List.mem_range.2 h1)
  | 39, _ =>
    exact alls_mem renderFits_39 r1 (List.mem_range.2 h1)
  | 40, _ =>
    exact alls_mem renderFits_40 r1 (List.mem_range.2 h1)
  | 41, _ =>
    exact alls_mem renderFits_41 r1 (List.mem_range.2 h1)
  | 42, _ =>
    exact alls_mem renderFits_42 r1 (List.mem_range.2 h1)
  | 43, _ =>
    exact alls_mem renderFits_43 r1 (List.mem_range.2 h1)
  | 44, _ =>
    exact alls_mem renderFits_44 r1 (List.mem_range.2 h1)
  | 45, _ =>
    exact alls_mem renderFits_45 r1 (List.mem_range.2 h1)
  | 46, _ =>
    exact alls_mem renderFits_46 r1 (List.mem_range.2 h1)
  | 47, _ =>
    exact alls_mem renderFits_47 r1 (List.mem_range.2 h1)
  | 48, _ =>
    exact alls_mem renderFits_48 r1 (List.mem_range.2 h1)
  | 49, _ =>
    exact alls_mem renderFits_49 r1 (List.mem_range.2 h1)
  | 50, _ =>
    exact alls_mem renderFits_50 r1 (List.mem_range.2 h1)
  | 51, _ =>
    exact alls_mem renderFits_51 r1 (List.mem_range.2 h1)
  | 52, _ =>
    exact alls_mem renderFits_52 r1 (List.mem_range.2 h1)
  | 53, _ =>
    exact alls_mem renderFits_53 r1 (List.mem_range.2 h1)
  | 54, _ =>
    exact alls_mem renderFits_54 r1 (List.mem_range.2 h1)
  | 55, _ =>
    exact alls_mem renderFits_55 r1 (List.mem_range.2 h1)
  | 56, _ =>
    exact alls_mem renderFits_56 r1 (List.mem_range.2 h1)
  | 57, _ =>
    exact alls_mem renderFits_57 r1 (List.mem_range.2 h1)
  | 58, _ =>
    exact alls_mem renderFits_58 r1 (List.mem_range.2 h1)
  | 59, _ =>
    exact alls_mem renderFits_59 r1 (List.mem_range.2 h1)
  | 60, _ =>
    exact alls_mem renderFits_60 r1 (List.mem_range.2 h1)
  | 61, _ =>
    exact alls_mem renderFits_61 r1 (List.mem_range.2 h1)
  | 62, _ =>
    exact alls_mem renderFits_62 r1 (List.mem_range.2 h1)
  | 63, _ =>
    exact alls_mem renderFits_63 r1 (List.mem_range.2 h1)
  | 64, _ =>
    exact alls_mem renderFits_64 r1 (List.mem_range.2 h1)
  | 65, _ =>
    exact alls_mem renderFits_65 r1 (List.mem_range.2 h1)
  | 66, _ =>
    exact alls_mem renderFits_66 r1 (List.mem_range.2 h1)
  | 67, _ =>
    exact alls_mem renderFits_67 r1 (List.mem_range.2 h1)
  | 68, _ =>
    exact alls_mem renderFits_68 r1 (List.mem_range.2 h1)
  | 69, _ =>
    exact alls_mem renderFits_69 r1 (List.mem_range.2 h1)
  | 70, _ =>
    exact alls_mem renderFits_70 r1 (List.mem_range.2 h1)
  | 71, _ =>
    exact alls_mem renderFits_71 r1 (List.mem_range.2 h1)
  | 72, _ =>
    exact alls_mem renderFits_72 r1 (List.mem_range.2 h1)
  | 73, _ =>
    exact alls_mem renderFits_73 r1 (List.mem_range.2 h1)
  | 74, _ =>
    exact alls_mem renderFits_74 r1 (List.mem_range.2 h1)
  | 75, _ =>
    exact alls_mem renderFits_75 r1 (List.mem_range.2 h1)
  | 76, _ =>
    exact alls_mem renderFits_76 r1 (List.mem_range.2 h1)
  | 77, _ =>
    exact alls_mem renderFits_77 r1 (List.mem_range.2 h1)
  | 78, _ =>
    exact alls_mem renderFits_78 r1 (List.mem_range.2 h1)
  | 79, _ =>
    exact alls_mem renderFits_79 r1 (List.mem_range.2 h1)
  | 80, _ =>
    exact alls_mem renderFits_80 r1 (List.mem_range.2 h1)
  | 81, _ =>
    exact alls_mem renderFits_81 r1 (List.mem_range.2 h1)
  | 82, _ =>
    exact alls_mem renderFits_82 r1 (List.mem_range.2 h1)
  | 83, _ =>
    exact alls_mem renderFits_83 r1 (List.mem_range.2 h1)
  | 84, _ =>
    exact alls_mem renderFits_84 r1 (List.mem_range.2 h1)
  | 85, _ =>
    exact alls_mem renderFits_85 r1 (List.mem_range.2 h1)
  | 86, _ =>
    exact alls_mem renderFits_86 r1 (List.mem_range.2 h1)
  | 87, _ =>
    exact alls_mem renderFits_87 r1 (List.mem_range.2 h1)
  | 88, _ =>
    exact alls_mem renderFits_88 r1 (List.mem_range.2 h1)
  | 89, _ =>
    exact alls_mem renderFits_89 r1 (List.mem_range.2 h1)
  | 90, _ =>
    exact alls_mem renderFits_90 r1 (List.mem_range.2 h1)
  | 91, _ =>
    exact alls_mem renderFits_91 r1 (List.mem_range.2 h1)
  | 92, _ =>
    exact alls_mem renderFits_92 r1 (List.mem_range.2 h1)
  | 93, _ =>
    exact alls_mem renderFits_93 r1 (List.mem_range.2 h1)
  | 94, _ =>
    exact alls_mem renderFits_94 r1 (List.mem_range.2 h1)
  | 95, _ =>
    exact alls_mem renderFits_95 r1 (List.mem_range.2 h1)
  | 96, _ =>
    exact alls_mem renderFits_96 r1 (List.mem_range.2 h1)
  | 97, _ =>
    exact alls_mem renderFits_97 r1 (List.mem_range.2 h1)
  | 98, _ =>
    exact alls_mem renderFits_98 r1 (List.mem_range.2 h1)
  | 99, _ =>
    exact alls_mem renderFits_99 r1 (List.mem_range.2 h1)
  | 100, _ =>
    exact alls_mem renderFits_100 r1 (List.mem_range.2 h1)
  | 101, _ =>
    exact alls_mem renderFits_101 r1 (List.mem_range.2 h1)
  | 102, _ =>
    exact alls_mem renderFits_102 r1 (List.mem_range.2 h1)
  | 103, _ =>
    exact alls_mem renderFits_103 r1 (List.mem_range.2 h1)
  | 104, _ =>
    exact alls_mem renderFits_104 r1 (List.mem_range.2 h1)
  | 105, _ =>
    exact alls_mem renderFits_105 r1 (List.mem_range.2 h1)
  | 106, _ =>
    exact alls_mem renderFits_106 r1 (List.mem_range.2 h1)
  | 107, _ =>
    exact alls_mem renderFits_107 r1 (List.mem_range.2 h1)
  | 108, _ =>
    exact alls_mem renderFits_108 r1 (List.mem_range.2 h1)
  | 109, _ =>
    exact alls_mem renderFits_109 r1 (List.mem_range.2 h1)
  | 110, _ =>
    exact alls_mem renderFits_110 r1 (List.mem_range.2 h1)
  | 111, _ =>
    exact alls_mem renderFits_111 r1 (List.mem_range.2 h1)
  | 112, _ =>
    exact alls_mem renderFits_112 r1 (List.mem_range.2 h1)
  | 113, _ =>
    exact alls_mem renderFits_113 r1 (List.mem_range.2 h1)
  | 114, _ =>
    exact alls_mem renderFits_114 r1 (List.mem_range.2 h1)
  | 115, _ =>
    exact alls_mem renderFits_115 r1 (List.mem_range.2 h1)
  | 116, _ =>
    exact alls_mem renderFits_116 r1 (List.mem_range.2 h1)
  | 117, _ =>
    exact alls_mem renderFits_117 r1 (List.mem_range.2 h1)
  | 118, _ =>
    exact alls_mem renderFits_118 r1 (List.mem_range.2 h1)
  | 119, _ =>
    exact alls_mem renderFits_119 r1 (List.mem_range.2 h1)
  | 120, _ =>
    exact alls_mem renderFits_120 r1 (List.mem_range.2 h1)
  | 121, _ =>
    exact alls_mem renderFits_121 r1 (List.mem_range.2 h1)
  | 122, _ =>
    exact alls_mem renderFits_122 r1 (List.mem_range.2 h1)
  | 123, _ =>
    exact alls_mem renderFits_123 r1 (List.mem_range.2 h1)
  | 124, _ =>
    exact alls_mem renderFits_124 r1 (List.mem_range.2 h1)
  | 125, _ =>
    exact alls_mem renderFits_125 r1 (List.mem_range.2 h1)
  | 126, _ =>
    exact alls_mem renderFits_126 r1 (List.mem_range.2 h1)
  | 127, _ =>
    exact alls_mem renderFits_127 r1 (List.mem_range.2 h1)
  | 128, _ =>
    exact alls_mem renderFits_128 r1 (List.mem_range.2 h1)
  | 129, _ =>
    exact alls_mem renderFits_129 r1 (List.mem_range.2 h1)
  | 130, _ =>
    exact alls_mem renderFits_130 r1 (List.mem_range.2 h1)
  | 131, _ =>
    exact alls_mem renderFits_131 r1 (List.mem_range.2 h1)
  | 132, _ =>
    exact alls_mem renderFits_132 r1 (List.mem_range.2 h1)
  | 133, _ =>
    exact alls_mem renderFits_133 r1 (List.mem_range.2 h1)
  | 134, _ =>
    exact alls_mem renderFits_134 r1 (List.mem_range.2 h1)
  | 135, _ =>
    exact alls_mem renderFits_135 r1 (List.mem_range.2 h1)
  | 136, _ =>
    exact alls_mem renderFits_136 r1 (List.mem_range.2 h1)
  | 137, _ =>
    exact alls_mem renderFits_137 r1 (List.mem_range.2 h1)
  | 138, _ =>
    exact alls_mem renderFits_138 r1 (List.mem_range.2 h1)
  | 139, _ =>
    exact alls_mem renderFits_139 r1 (List.mem_range.2 h1)
  | 140, _ =>
    exact alls_mem renderFits_140 r1 (List.mem_range.2 h1)
  | 141, _ =>
    exact alls_mem renderFits_141 r1 (List.mem_range.2 h1)
  | 142, _ =>
    exact alls_mem renderFits_142 r1 (List.mem_range.2 h1)
  | 143, _ =>
    exact alls_mem renderFits_143 r1 (List.mem_range.2 h1)
  | 144, _ =>
    exact alls_mem renderFits_144 r1 (List.mem_range.2 h1)
  | 145, _ =>
    exact alls_mem renderFits_145 r1 (List.mem_range.2 h1)
  | 146, _ =>
    exact alls_mem renderFits_146 r1 (List.mem_range.2 h1)
  | 147, _ =>
    exact alls_mem renderFits_147 r1 (List.mem_range.2 h1)
  | 148, _ =>
    exact alls_mem renderFits_148 r1 (List.mem_range.2 h1)
  | 149, _ =>
    exact alls_mem renderFits_149 r1 (List.mem_range.2 h1)
  | 150, _ =>
    exact alls_mem renderFits_150 r1 (List.mem_range.2 h1)
  | 151, _ =>
    exact alls_mem renderFits_151 r1 (List.mem_range.2 h1)
  | 152, _ =>
    exact alls_mem renderFits_152 r1 (List.mem_range.2 h1)
  | 153, _ =>
    exact alls_mem renderFits_153 r1 (List.mem_range.2 h1)
  | 154, _ =>
    exact alls_mem renderFits_154 r1 (List.mem_range.2 h1)
  | 155, _ =>
    exact alls_mem renderFits_155 r1 (List.mem_range.2 h1)
  | 156, _ =>
    exact alls_mem renderFits_156 r1 (List.mem_range.2 h1)
  | 157, _ =>
    exact alls_mem renderFits_157 r1 (List.mem_range.2 h1)
  | 158, _ =>
    exact alls_mem renderFits_158 r1 (List.mem_range.2 h1)
  | 159, _ =>
    exact alls_mem renderFits_159 r1 (List.mem_range.2 h1)
  | 160, _ =>
    exact alls_mem renderFits_160 r1 (List.mem_range.2 h1)
  | 161, _ =>
    exact alls_mem renderFits_161 r1 (List.mem_range.2 h1)
  | 162, _ =>
    exact alls_mem renderFits_162 r1 (List.mem_range.2 h1)
  | 163, _ =>
    exact alls_mem renderFits_163 r1 (List.mem_range.2 h1)
  | 164, _ =>
    exact alls_mem renderFits_164 r1 (List.mem_range.2 h1)
  | 165, _ =>
    exact alls_mem renderFits_165 r1 (List.mem_range.2 h1)
  | 166, _ =>
    exact alls_mem renderFits_166 r1 (List.mem_range.2 h1)
  | 167, _ =>
    exact alls_mem renderFits_167 r1 (List.mem_range.2 h1)
  | 168, _ =>
    exact alls_mem renderFits_168 r1 (List.mem_range.2 h1)
  | 169, _ =>
    exact alls_mem renderFits_169 r1 (List.mem_range.2 h1)
  | 170, _ =>
    exact alls_mem renderFits_170 r1 (List.mem_range.2 h1)
  | 171, _ =>
    exact alls_mem renderFits_171 r1 (List.mem_range.2 h1)
  | 172, _ =>
    exact alls_mem renderFits_172 r1 (List.mem_range.2 h1)
  | 173, _ =>
    exact alls_mem renderFits_173 r1 (List.mem_range.2 h1)
  | 174, _ =>
    exact alls_mem renderFits_174 r1 (List.mem_range.2 h1)
  | 175, _ =>
    exact alls_mem renderFits_175 r1 (List.mem_range.2 h1)
  | 176, _ =>
    exact alls_mem renderFits_176 r1 (List.mem_range.2 h1)
  | 177, _ =>
    exact alls_mem renderFits_177 r1 (List.mem_range.2 h1)
  | 178, _ =>
    exact alls_mem renderFits_178 r1 (List.mem_range.2 h1)
  | 179, _ =>
    exact alls_mem renderFits_179 r1 (List.mem_range.2 h1)
  | 180, _ =>
    exact alls_mem renderFits_180 r1 (List.mem_range.2 h1)
  | 181, _ =>
    exact alls_mem renderFits_181 r1 (List.mem_range.2 h1)
  | 182, _ =>
    exact alls_mem renderFits_182 r1 (List.mem_range.2 h1)
  | 183, _ =>
    exact alls_mem renderFits_183 r1 (List.mem_range.2 h1)
  | 184, _ =>
    exact alls_mem renderFits_184 r1 (List.mem_range.2 h1)
  | 185, _ =>
    exact alls_mem renderFits_185 r1 (List.mem_range.2 h1)
  | 186, _ =>
    exact alls_mem renderFits_186 r1 (List.mem_range.2 h1)
  | 187, _ =>
    exact alls_mem renderFits_187 r1 (List.mem_range.2 h1)
  | 188, _ =>
    exact alls_mem renderFits_188 r1 (List.mem_range.2 h1)
  | 189, _ =>
    exact alls_mem renderFits_189 r1 (List.mem_range.2 h1)
  | 190, _ =>
    exact alls_mem renderFits_190 r1 (List.mem_range.2 h1)
  | 191, _ =>
    exact alls_mem renderFits_191 r1 (List.mem_range.2 h1)
  | 192, _ =>
    exact alls_mem renderFits_192 r1 (List.mem_range.2 h1)
  | 193, _ =>
    exact alls_mem renderFits_193 r1 (List.mem_range.2 h1)
  | 194, _ =>
    exact alls_mem renderFits_194 r1 (List.mem_range.2 h1)
  | 195, _ =>
    exact alls_mem renderFits_195 r1 (List.mem_range.2 h1)
  | 196, _ =>
    exact alls_mem renderFits_196 r1 (List.mem_range.2 h1)
  | 197, _ =>
    exact alls_mem renderFits_197 r1 (List.mem_range.2 h1)
  | 198, _ =>
    exact alls_mem renderFits_198 r1 (List.mem_range.2 h1)
  | 199, _ =>
    exact alls_mem renderFits_199 r1 (List.mem_range.2 h1)
  | 200, _ =>
    exact alls_mem renderFits_200 r1 (List.mem_range.2 h1)
  | 201, _ =>
    exact alls_mem renderFits_201 r1 (List.mem_range.2 h1)
  | 202, _ =>
    exact alls_mem renderFits_202 r1 (List.mem_range.2 h1)
  | 203, _ =>
    exact alls_mem renderFits_203 r1 (List.mem_range.2 h1)
  | 204, _ =>
    exact alls_mem renderFits_204 r1 (List.mem_range.2 h1)
  | 205, _ =>
    exact alls_mem renderFits_205 r1 (List.mem_range.2 h1)
  | 206, _ =>
    exact alls_mem renderFits_206 r1 (List.mem_range.2 h1)
  | 207, _ =>
    exact alls_mem renderFits_207 r1 (List.mem_range.2 h1)
  | 208, _ =>
    exact alls_mem renderFits_208 r1 (List.mem_range.2 h1)
  | 209, _ =>
    exact alls_mem renderFits_209 r1 (List.mem_range.2 h1)
  | 210, _ =>
    exact alls_mem renderFits_210 r1 (List.mem_range.2 h1)
  | 211, _ =>
    exact alls_mem renderFits_211 r1 (List.mem_range.2 h1)
  | 212, _ =>
    exact alls_mem renderFits_212 r1 (List.mem_range.2 h1)
  | 213, _ =>
    exact alls_mem renderFits_213 r1 (List.mem_range.2 h1)
  | 214, _ =>
    exact alls_mem renderFits_214 r1 (List.mem_range.2 h1)
  | 215, _ =>
    exact alls_mem renderFits_215 r1 (List.mem_range.2 h1)
  | 216, _ =>
    exact alls_mem renderFits_216 r1 (List.mem_range.2 h1)
  | 217, _ =>
    exact alls_mem renderFits_217 r1 (List.mem_range.2 h1)
  | 218, _ =>
    exact alls_mem renderFits_218 r1 (List.mem_range.2 h1)
  | 219, _ =>
    exact alls_mem renderFits_219 r1 (List.mem_range.2 h1)
  | 220, _ =>
    exact alls_mem renderFits_220 r1 (List.mem_range.2 h1)
  | 221, _ =>
    exact alls_mem renderFits_221 r1 (List.mem_range.2 h1)
  | 222, _ =>
    exact alls_mem renderFits_222 r1 (List.mem_range.2 h1)
  | 223, _ =>
    exact alls_mem renderFits_223 r1 (List.mem_range.2 h1)
  | 224, _ =>
    exact alls_mem renderFits_224 r1 (List.mem_range.2 h1)
  | 225, _ =>
    exact alls_mem renderFits_225 r1 (List.mem_range.2 h1)
  | 226, _ =>
    exact alls_mem renderFits_226 r1 (List.mem_range.2 h1)
  | 227, _ =>
    exact alls_mem renderFits_227 r1 (List.mem_range.2 h1)
  | 228, _ =>
    exact alls_mem renderFits_228 r1 (List.mem_range.2 h1)
  | 229, _ =>
    exact alls_mem renderFits_229 r1 (List.mem_range.2 h1)
  | 230, _ =>
    exact alls_mem renderFits_230 r1 (List.mem_range.2 h1)
  | 231, _ =>
    exact alls_mem renderFits_231 r1 (List.mem_range.2 h1)
  | 232, _ =>
    exact alls_mem renderFits_232 r1 (List.mem_range.2 h1)
  | 233, _ =>
    exact alls_mem renderFits_233 r1 (List.mem_range.2 h1)
  | 234, _ =>
    exact alls_mem renderFits_234 r1 (List.mem_range.2 h1)
  | 235, _ =>
    exact alls_mem renderFits_235 r1 (List.mem_range.2 h1)
  | 236, _ =>
    exact alls_mem renderFits_236 r1 (List.mem_range.2 h1)
  | 237, _ =>
    exact alls_mem renderFits_237 r1 (List.mem_range.2 h1)
  | 238, _ =>
    exact alls_mem renderFits_238 r1 (List.mem_range.2 h1)
  | 239, _ =>
    exact alls_mem renderFits_239 r1 (List.mem_range.2 h1)
  | 240, _ =>
    exact alls_mem renderFits_240 r1 (List.mem_range.2 h1)
  | 241, _ =>
    exact alls_mem renderFits_241 r1 (List.mem_range.2 h1)
  | 242, _ =>
    exact alls_mem renderFits_242 r1 (List.mem_range.2 h1)
  | 243, _ =>
    exact alls_mem renderFits_243 r1 (List.mem_range.2 h1)
  | 244, _ =>
    exact alls_mem renderFits_244 r1 (List.mem_range.2 h1)
  | 245, _ =>
    exact alls_mem renderFits_245 r1 (List.mem_range.2 h1)
  | 246, _ =>
    exact alls_mem renderFits_246 r1 (List.mem_range.2 h1)
  | 247, _ =>
    exact alls_mem renderFits_247 r1 (List.mem_range.2 h1)
  | 248, _ =>
    exact alls_mem renderFits_248 r1 (List.mem_range.2 h1)
  | 249, _ =>
    exact alls_mem renderFits_249 r1 (List.mem_range.2 h1)
  | 250, _ =>
    exact alls_mem renderFits_250 r1 (List.mem_range.2 h1)
  | 251, _ =>
    exact alls_mem renderFits_251 r1 (List.mem_range.2 h1)
  | 252, _ =>
    exact alls_mem renderFits_252 r1 (List.mem_range.2 h1)
  | 253, _ =>
    exact alls_mem renderFits_253 r1 (List.mem_range.2 h1)
  | 254, _ =>
    exact alls_mem renderFits_254 r1 (List.mem_range.2 h1)
  | 255, _ =>
    exact alls_mem renderFits_255 r1 (List.mem_range.2 h1)
  | n + 256, h => exact absurd h (by omega)
theorem renderFits_walk (a0 : Int) (a1 : Int) (w : World) (w0 : (Lit.int .u8 a0).wf = true) (w1 : (Lit.int .i64 a1).wf = true) : Calls Tryd.prog 3 #[Value.int .u8 a0, Value.int .i64 a1] w fun e w' => e = .returned (.bool true) ∧ Below w.heap.size w w' := by
  obtain ⟨r0, h0, rfl⟩ := byte_cases w0
  obtain ⟨r1, h1, e1⟩ := mod_cases a1 11 (by decide)
  exact fin_memo memo_ok (fun _ => a1) place_ok names_ok mixed (fun fn h => by rw [Tryd.func3] at h; obtain rfl := Option.some.inj h; rfl) (fun _ => w1) (tab1_ok (by decide) (by decide) e1) (.cons _ _ _ _ (.int _ _) (.cons _ _ _ _ (.sym 0) .nil)) (renderFits_all r0 r1 h0 h1)
end Go.Proofs.YtlmabmpdbcgabaaDoor.Fin
